/- Part 16 of the proof: The document's pages with a line more: a thing. The document's pages with a line more, of any line. -/
import Derived.Test.YteadhacoglcbfaaDoorZ15
namespace Go.Proofs.YteadhacoglcbfaaDoor

open Go.ChangeShapes Go.WideShapes Go.ChangeAt Go.RowKit Go.Shelf

set_option maxRecDepth 100000 in
set_option maxHeartbeats 8000000 in
theorem one_put (line : List UInt8) (w0 : List UInt8) (ws : List (List UInt8)) (hw : splitW line = w0 :: ws) (hw1 : w0 ≠ wPage) (n0 n1 n2 n3 : Int) (hn : (numsL line)[0]? = some n0 ∧ (numsL line)[1]? = some n1 ∧ (numsL line)[2]? = some n2 ∧ (numsL line)[3]? = some n3) (hs : line.length ≤ 10000) (hw2 : w0 ≠ wLane) (pk pn pll py ph : Int) (hP : refGot line = gotV ⟨pk, pn, pll, py, ph⟩ true)
    (base : Nat) (qs : List Page) (k g vc : Nat) (h lc : Nat) (ks : List Lane) (m : Nat) (pt pf pl : Int) (yx : Int) (ya : Option Addr) (yc : Nat) (yl : List Put)
    (hk : qs.length = k) (hm : ks.length = m) (hkm : k ≤ 1000000) (hmm : m ≤ 1000000) (hyl : yl.length ≤ 1000000) (w : World)
    (hr : Row w base 49 4 Page.cells (.slice (some ⟨g, 0, none⟩) (k + 1) vc) (qs ++ [⟨⟨some ⟨h, 0, none⟩, m + 1, lc, ks ++ [⟨yx, ⟨ya, yl.length, yc, yl⟩⟩]⟩, pt, pf, pl⟩]))
    (hl : Row w base 46 2 Lane.cells (.slice (some ⟨h, 0, none⟩) (m + 1) lc) (ks ++ [⟨yx, ⟨ya, yl.length, yc, yl⟩⟩])) (hy : Row w base 33 5 Put.cells (.slice ya yl.length yc) yl) (hb : base ≤ w.heap.size) :
    Calls Tryd.prog 22 #[.slice (some ⟨g, 0, none⟩) (k + 1) vc, sv line] w fun e w' => ∃ a' c', e = .returned (.agg #[.slice (some ⟨g, 0, none⟩) (k + 1) vc, .int .i64 0, .bool true]) ∧ Row w' base 46 2 Lane.cells (.slice (some ⟨h, 0, none⟩) (m + 1) lc) (ks ++ [⟨yx, ⟨a', yl.length + 1, c', yl ++ [⟨pk, pn, pll, py, ph⟩]⟩⟩]) ∧
      Row w' base 33 5 Put.cells (.slice a' (yl.length + 1) c') (yl ++ [⟨pk, pn, pll, py, ph⟩]) ∧ Twain w w' (Value.slice ya yl.length yc).ownBlock (some h) ∧ ((Value.slice a' (yl.length + 1) c').ownBlock = (Value.slice ya yl.length yc).ownBlock ∨ ∃ b, (Value.slice a' (yl.length + 1) c').ownBlock = some b ∧ w.heap.size ≤ b) := by
  have HL := Lib.hid hl
  have HY := Lib.hid hy
  have hgg := (hr.lt g rfl).2
  have hhh := (hl.lt h rfl).2
  obtain ⟨-, hvc1, hvm⟩ := hr.shape1 (by rw [List.length_append, List.length_singleton]; omega)
  obtain ⟨-, hlc1, hlm⟩ := hl.shape1 (by rw [List.length_append, List.length_singleton]; omega)
  unfold maxLen at hvm hlm
  have HYG : Hid (∀ b, (Value.slice ya yl.length yc).ownBlock = some b → b < w.heap.size ∧ b ≠ h ∧ b ≠ g) := Lib.hid fun b hb2 => ⟨(hy.lt b hb2).2, (fun e => by
    obtain ⟨c1, h1⟩ := hy.type hb2
    obtain ⟨c2, h2⟩ := hl.type (g := h) rfl
    rw [e, h2] at h1
    cases h1), (fun e => by
    obtain ⟨c1, h1⟩ := hy.type hb2
    obtain ⟨c2, h2⟩ := hr.type (g := g) rfl
    rw [e, h2] at h1
    cases h1)⟩
  have hgh : g ≠ h := fun e => by
    obtain ⟨c1, h1⟩ := hr.type (g := g) rfl
    obtain ⟨c2, h2⟩ := hl.type (g := h) rfl
    rw [e, h2] at h1
    cases h1
  have P0 := Row.cellN (enc := Page.cells) (fun _ => rfl) hr rfl (get_last hk) (j := 0) rfl
  have L1 := Row.cellN (enc := Lane.cells) (fun _ => rfl) hl rfl (get_last hm) (j := 1) rfl
  simp only [Nat.add_zero] at P0
  replace L1 : w.cell? ⟨h, m * 2 + 1, none⟩ = some (.slice ya yl.length yc) := L1
  have ek : (k : Int) < (k : Int) + 1 := by omega
  have em : (m : Int) < (m : Int) + 1 := by omega
  have j2 : decide ((k : Int) + 1 = 0) = false := decide_eq_false (by omega)
  have j3 : (((k : Int) + 1) == 0) = false := beq_eq_false_iff_ne.2 (by omega)
  have i2 : decide ((m : Int) + 1 = 0) = false := decide_eq_false (by omega)
  have i3 : (((m : Int) + 1) == 0) = false := beq_eq_false_iff_ne.2 (by omega)
  have CP := Lib.hid (fun w' => refPut51_any line hs w')
  rw [hP] at CP
  unfold gotV at CP
  clear hP hr hl hy
  have CW2 := Lib.hid (fun w' => words_any line hs w')
  rw [hw] at CW2
  have CN := Lib.hid (fun w' => nums_any line hs w')
  have CW := Lib.hid (fun w' => words_any line hs w')
  rw [hw] at CW
  have HN := Lib.hid hn
  have h6 := numsL_len line
  have t1 : (w0 == [112, 97, 103, 101]) = false := beq_eq_false_iff_ne.2 hw1
  clear hw1
  have t2 : (w0 == [108, 97, 110, 101]) = false := beq_eq_false_iff_ne.2 hw2
  clear hw2
  clear hn hw
  go_enter Tryd.func22, Tryd.ntmps22
  go_wp2_with fail
  refine (CN.out _).mono ?_
  rintro e w1 ⟨v1, rfl, hr1, k1⟩
  obtain ⟨a1, c1, rfl, sl1⟩ := hr1.sl (fun _ => rfl)
  have m1 := sl1.2.1
  have m2 := sl1.2.2.1
  unfold maxLen at m2
  rcases sl1.2.2.2 with e | ⟨gn, o, rfl, hgn, r1⟩
  · rw [e] at h6; simp at h6
  have d0 := r1 0 _ HN.out.1 0 _ rfl
  have d1 := r1 1 _ HN.out.2.1 0 _ rfl
  have d2 := r1 2 _ HN.out.2.2.1 0 _ rfl
  have d3 := r1 3 _ HN.out.2.2.2 0 _ rfl
  simp only [Nat.add_zero, Nat.mul_one] at d0 d1 d2 d3
  have br1 : Blk w1 w.heap.size [.slice none 0 0, .int .i64 0, .bool false] 27 := Blk.kp (by (repeat (first | with_reducible assumption | ((with_reducible refine Blk.newL ?_ ?_); (focus (first | (simp; done) | omega)); rfl) | with_reducible refine Blk.drew ?_ | with_reducible refine Blk.drewN ?_ _ | with_reducible refine Blk.alloc ?_ _ | ((with_reducible refine Blk.other ?_ ?_ _); rotate_left; (focus (first | with_reducible assumption | omega | (simp; done) | (simp; omega))))))) k1
  have kw1 : Kp w w1 := ((by (repeat (first | with_reducible assumption | with_reducible exact Kp.refl _ | with_reducible refine Kp.drew ?_ | with_reducible refine Kp.drewN ?_ _ | with_reducible refine Kp.alloc ?_ _ | ((with_reducible refine Kp.setCell ?_ ?_ _); rotate_left; (focus (first | omega | (simp; done) | (simp; omega)))) | with_reducible refine Kp.trans ?_ (by assumption)))) : Kp w _).trans k1
  obtain ⟨L, hL⟩ : ∃ L, (numsL line).length = L := ⟨_, rfl⟩
  rw [hL] at h6 m1 ⊢
  have l0 : 0 < L := by omega
  have l1 : (1 : Int) < (L : Int) := by omega
  have l2 : (2 : Int) < (L : Int) := by omega
  have l3 : (3 : Int) < (L : Int) := by omega
  clear hr1 sl1 r1 k1 hL HN CN
  go_wp2_with fail
  (refine wp_region_held_drew (S := (fun w' => (∀ b o, b < w1.heap.size → w'.cell? ⟨b, o, none⟩ = w1.cell? ⟨b, o, none⟩) ∧ Kp w1 w')) (by kernel_rfl) ?_ (fun hHd => ?_); (focus ((try dsimp only); (first | with_reducible assumption | with_reducible exact held_start _ | with_reducible exact held_next (by assumption) (by assumption) | with_reducible exact held_alloc (by assumption) _ | with_reducible exact held_drew (by assumption) | ((with_reducible refine held_kp ?_); (repeat (first | with_reducible assumption | with_reducible exact Kp.refl _ | with_reducible refine Kp.drew ?_ | with_reducible refine Kp.drewN ?_ _ | with_reducible refine Kp.alloc ?_ _ | ((with_reducible refine Kp.setCell ?_ ?_ _); rotate_left; (focus (first | omega | (simp; done) | (simp; omega)))) | with_reducible refine Kp.trans ?_ (by assumption))))))))
  (refine takeH (i := 0) (oi := ?o32) (v := ?v32) ?h32 (by kernel_rfl) ?q32 (Or.inl ⟨?w32, ?y32⟩) (by assumption) ?r32; (case h32 => ((simp only [g1, g3]); rfl)); (case q32 => exact fun _ _ _ h => h); (case w32 => rfl); (case y32 => (intro w' hSw; (try dsimp only at hSw); go_simp; (try with_reducible rfl))); (try simp only [Act.put, s1, s2, s3]))
  (refine takeH (i := 1) (oi := ?o33) (v := ?v33) ?h33 (by kernel_rfl) ?q33 (Or.inl ⟨?w33, ?y33⟩) (by assumption) ?r33; (case h33 => ((simp only [g1, g2, g3]); rfl)); (case q33 => exact fun _ _ _ h => h); (case w33 => rfl); (case y33 => (intro w' hSw; (try dsimp only at hSw); go_simp; (try with_reducible rfl))); (try simp only [Act.put, s1, s2, s3]))
  (refine takeH (i := 2) (oi := ?o34) (v := ?v34) ?h34 (by kernel_rfl) ?q34 (Or.inl ⟨?w34, ?y34⟩) (by assumption) ?r34; (case h34 => ((simp only [g1, g2, g3]); rfl)); (case q34 => exact fun _ _ _ h => h); (case w34 => rfl); (case y34 => (intro w' hSw; (try dsimp only at hSw); go_simp; (try with_reducible rfl))); (try simp only [Act.put, s1, s2, s3]))
  (refine takeH (i := 3) (oi := ?o35) (v := ?v35) ?h35 (by kernel_rfl) ?q35 (Or.inl ⟨?w35, ?y35⟩) (by assumption) ?r35; (case h35 => ((simp only [g1, g2, g3]); rfl)); (case q35 => exact fun _ _ _ h => h); (case w35 => rfl); (case y35 => (intro w' hSw; (try dsimp only at hSw); go_simp; (try with_reducible rfl))); (try simp only [Act.put, s1, s2, s3]))
  (refine takeH (i := 4) (oi := ?o36) (v := ?v36) ?h36 (by kernel_rfl) ?q36 (Or.inl ⟨?w36, ?y36⟩) (by assumption) ?r36; (case h36 => ((simp only [g1, g2, g3]); rfl)); (case q36 => exact fun _ _ _ h => h); (case w36 => rfl); (case y36 => (intro w' hSw; (try dsimp only at hSw); go_simp; (try with_reducible rfl))); (try simp only [Act.put, s1, s2, s3]))
  (refine takeH (i := 5) (oi := ?o37) (v := ?v37) ?h37 (by kernel_rfl) ?q37 (Or.inl ⟨?w37, ?y37⟩) (by assumption) ?r37; (case h37 => ((simp only [g1, g2, g3]); rfl)); (case q37 => exact fun _ _ _ h => h); (case w37 => rfl); (case y37 => (intro w' hSw; (try dsimp only at hSw); go_simp; (try with_reducible rfl))); (try simp only [Act.put, s1, s2, s3]))
  (refine takeH (i := 6) (oi := ?o38) (v := ?v38) ?h38 (by kernel_rfl) ?q38 (Or.inl ⟨?w38, ?y38⟩) (by assumption) ?r38; (case h38 => ((simp only [g1, g2, g3]); rfl)); (case q38 => exact fun _ _ _ h => h); (case w38 => rfl); (case y38 => (intro w' hSw; (try dsimp only at hSw); go_simp; (try with_reducible rfl))); (try simp only [Act.put, s1, s2, s3]))
  (refine takeH (i := 7) (oi := ?o39) (v := ?v39) ?h39 (by kernel_rfl) ?q39 (Or.inl ⟨?w39, ?y39⟩) (by assumption) ?r39; (case h39 => ((simp only [g1, g2, g3]); rfl)); (case q39 => exact fun _ _ _ h => h); (case w39 => rfl); (case y39 => (intro w' hSw; (try dsimp only at hSw); go_simp; (try with_reducible rfl))); (try simp only [Act.put, s1, s2, s3]))
  (refine takeH (i := 8) (oi := ?o40) (v := ?v40) ?h40 (by kernel_rfl) ?q40 (Or.inl ⟨?w40, ?y40⟩) (by assumption) ?r40; (case h40 => ((simp only [g1, g2, g3]); rfl)); (case q40 => exact fun _ _ _ h => h); (case w40 => rfl); (case y40 => (intro w' hSw; (try dsimp only at hSw); go_simp; (try with_reducible rfl))); (try simp only [Act.put, s1, s2, s3]))
  (refine takeH (i := 9) (oi := ?o41) (v := ?v41) ?h41 (by kernel_rfl) ?q41 (Or.inl ⟨?w41, ?y41⟩) (by assumption) ?r41; (case h41 => ((simp only [g1, g2, g3]); rfl)); (case q41 => exact fun _ _ _ h => h); (case w41 => rfl); (case y41 => (intro w' hSw; (try dsimp only at hSw); go_simp; (try with_reducible rfl))); (try simp only [Act.put, s1, s2, s3]))
  (refine wpAnyH_ready (rs := [10]) (by kernel_rfl) (by simp) ?_; refine AllReadyH.cons (o := ?o42) ?h42 (fun K hK => ?s42) AllReadyH.nil; (case h42 => (first | ((simp only [g1, g2, g3]); rfl) | rfl)); go_simp; (try dsimp only); refine hK.out _ _ ?_ (fun hHd => ?_); (focus ((try dsimp only); (first | with_reducible assumption | with_reducible exact held_start _ | with_reducible exact held_next (by assumption) (by assumption) | with_reducible exact held_alloc (by assumption) _ | with_reducible exact held_drew (by assumption) | ((with_reducible refine held_kp ?_); (repeat (first | with_reducible assumption | with_reducible exact Kp.refl _ | with_reducible refine Kp.drew ?_ | with_reducible refine Kp.drewN ?_ _ | with_reducible refine Kp.alloc ?_ _ | ((with_reducible refine Kp.setCell ?_ ?_ _); rotate_left; (focus (first | omega | (simp; done) | (simp; omega)))) | with_reducible refine Kp.trans ?_ (by assumption))))))); clear hK K; (try simp only [Act.put, s1, s2, s3]))
  (refine wpAnyH_ready (rs := [11]) (by kernel_rfl) (by simp) ?_; refine AllReadyH.cons (o := ?o43) ?h43 (fun K hK => ?s43) AllReadyH.nil; (case h43 => (first | ((simp only [g1, g2, g3]); rfl) | rfl)); go_simp; (try dsimp only); refine hK.out _ _ ?_ (fun hHd => ?_); (focus ((try dsimp only); (first | with_reducible assumption | with_reducible exact held_start _ | with_reducible exact held_next (by assumption) (by assumption) | with_reducible exact held_alloc (by assumption) _ | with_reducible exact held_drew (by assumption) | ((with_reducible refine held_kp ?_); (repeat (first | with_reducible assumption | with_reducible exact Kp.refl _ | with_reducible refine Kp.drew ?_ | with_reducible refine Kp.drewN ?_ _ | with_reducible refine Kp.alloc ?_ _ | ((with_reducible refine Kp.setCell ?_ ?_ _); rotate_left; (focus (first | omega | (simp; done) | (simp; omega)))) | with_reducible refine Kp.trans ?_ (by assumption))))))); clear hK K; (try simp only [Act.put, s1, s2, s3]))
  refine wpAnyH_done (by kernel_rfl) ?_ _
  clear hHd
  go_wp2_with fail
  refine (CW.out _).mono ?_
  rintro e w2 ⟨v2, rfl, hr2, k2⟩
  obtain ⟨a2, c2, rfl, sl2⟩ := hr2.sl (fun _ => rfl)
  have m3 := sl2.2.1
  have m4 := sl2.2.2.1
  unfold maxLen at m4
  rcases sl2.2.2.2 with e | ⟨g2', o2, rfl, hg2, r2⟩
  · cases e
  have q0 := r2 0 _ rfl 0 _ rfl
  simp only [Nat.add_zero, Nat.mul_one] at q0
  have kw2 : Kp w1 w2 := ((by (repeat (first | with_reducible assumption | with_reducible exact Kp.refl _ | with_reducible refine Kp.drew ?_ | with_reducible refine Kp.drewN ?_ _ | with_reducible refine Kp.alloc ?_ _ | ((with_reducible refine Kp.setCell ?_ ?_ _); rotate_left; (focus (first | omega | (simp; done) | (simp; omega)))) | with_reducible refine Kp.trans ?_ (by assumption)))) : Kp w1 _).trans k2
  have br := br1.kp kw2
  have brl := br1.lt
  clear hr2 sl2 r2 k2 CW
  have hX2 := kw2.size
  have kww : Kp w w2 := kw1.trans kw2
  have hgg2 := Nat.lt_of_lt_of_le hgg kww.size
  clear d0 d1 d2 d3
  go_wp2_with fail
  refine (CW2.out _).mono ?_
  rintro e w3 ⟨v3, rfl, hr3, k3⟩
  obtain ⟨a3, c3, rfl, sl3⟩ := hr3.sl (fun _ => rfl)
  have m5 := sl3.2.1
  have m6 := sl3.2.2.1
  unfold maxLen at m6
  rcases sl3.2.2.2 with e | ⟨g3', o3, rfl, hg3, r3⟩
  · cases e
  have q3 := r3 0 _ rfl 0 _ rfl
  simp only [Nat.add_zero, Nat.mul_one] at q3
  clear hr3 sl3 r3 CW2
  go_wp2_with fail
  refine (CP.out _).mono ?_
  rintro e w4 ⟨rfl, k4⟩
  have kw24 : Kp w2 w4 := ((by (repeat (first | with_reducible assumption | with_reducible exact Kp.refl _ | with_reducible refine Kp.drew ?_ | with_reducible refine Kp.drewN ?_ _ | with_reducible refine Kp.alloc ?_ _ | ((with_reducible refine Kp.setCell ?_ ?_ _); rotate_left; (focus (first | omega | (simp; done) | (simp; omega)))) | with_reducible refine Kp.trans ?_ (by assumption)))) : Kp w2 _).trans k4
  have kw4 : Kp w w4 := kww.trans kw24
  have br4 := br.kp kw24
  have p4 := (kw4.cell (p := ⟨g, k * 4, none⟩) hgg).trans P0
  have hgg4 := Nat.lt_of_lt_of_le hgg kw4.size
  have hhh4 := Nat.lt_of_lt_of_le hhh kw4.size
  have hX4 := kw4.size
  clear k3 k4 br br1 kw24
  go_wp2_with fail
  
  refine named_world (F := fun w5 => Blk w5 w4.heap.size [.int .i64 pk, .int .i64 pn, .int .i64 pll, .int .i64 py, .int .i64 ph, .bool true] 37 ∧ Kp w4 w5) ⟨(by (repeat (first | with_reducible assumption | ((with_reducible refine Blk.newL ?_ ?_); (focus (first | (simp; done) | omega)); rfl) | with_reducible refine Blk.drew ?_ | with_reducible refine Blk.drewN ?_ _ | with_reducible refine Blk.alloc ?_ _ | ((with_reducible refine Blk.other ?_ ?_ _); rotate_left; (focus (first | with_reducible assumption | omega | (simp; done) | (simp; omega))))))), (by (repeat (first | with_reducible assumption | with_reducible exact Kp.refl _ | with_reducible refine Kp.drew ?_ | with_reducible refine Kp.drewN ?_ _ | with_reducible refine Kp.alloc ?_ _ | ((with_reducible refine Kp.setCell ?_ ?_ _); rotate_left; (focus (first | omega | (simp; done) | (simp; omega)))) | with_reducible refine Kp.trans ?_ (by assumption))))⟩ ?_; rintro w5 ⟨bt, kw5⟩; have bt_0 := bt.cell 0 rfl; have bt_1 := bt.cell 1 rfl; have bt_2 := bt.cell 2 rfl; have bt_3 := bt.cell 3 rfl; have bt_4 := bt.cell 4 rfl; have bt_5 := bt.cell 5 rfl; have bt_ne := bt.lt; have bt_n1 := Nat.lt_add_one_of_lt bt_ne; have bt_n2 := Nat.lt_add_one_of_lt bt_n1
  have kww5 : Kp w w5 := kw4.trans kw5
  have br5 := br4.kp kw5
  have p5 := (kw5.cell (p := ⟨g, k * 4, none⟩) hgg4).trans p4
  have l5 := (kww5.cell (p := ⟨h, m * 2 + 1, none⟩) hhh).trans L1
  have hgg5 := Nat.lt_of_lt_of_le hgg kww5.size
  have hhh5 := Nat.lt_of_lt_of_le hhh kww5.size
  have hX5 := bt.lt
  clear br4 kw5 p4 P0 L1
  (refine wp_region_held_drew (S := (fun w' => w5.heap.size ≤ w'.heap.size ∧ w'.cell? ⟨g, k * 4, none⟩ = some (.slice (some ⟨h, 0, none⟩) (m + 1) lc) ∧ w'.cell? ⟨w4.heap.size, 0, none⟩ = some (.int .i64 pk) ∧ w'.cell? ⟨w4.heap.size, 1, none⟩ = some (.int .i64 pn) ∧ w'.cell? ⟨w4.heap.size, 2, none⟩ = some (.int .i64 pll) ∧ w'.cell? ⟨w4.heap.size, 3, none⟩ = some (.int .i64 py) ∧ w'.cell? ⟨w4.heap.size, 4, none⟩ = some (.int .i64 ph))) (by kernel_rfl) ?_ (fun hHd => ?_); (focus ((try dsimp only); exact ⟨Nat.le_refl _, p5, bt_0, bt_1, bt_2, bt_3, bt_4⟩)))
  (refine takeH (i := 0) (oi := ?o44) (v := ?v44) ?h44 (by kernel_rfl) ?q44 (Or.inl ⟨?w44, ?y44⟩) (by assumption) ?r44; (case h44 => ((simp only [g1, g3]); rfl)); (case q44 => exact fun _ _ _ h => h); (case w44 => rfl); (case y44 => (intro w' hSw; (try dsimp only at hSw); go_simp; (try with_reducible rfl))); (try simp only [Act.put, s1, s2, s3]))
  (refine takeH (i := 1) (oi := ?o45) (v := ?v45) ?h45 (by kernel_rfl) ?q45 (Or.inl ⟨?w45, ?y45⟩) (by assumption) ?r45; (case h45 => ((simp only [g1, g2, g3]); rfl)); (case q45 => exact fun _ _ _ h => h); (case w45 => rfl); (case y45 => (intro w' hSw; (try dsimp only at hSw); go_simp; (try with_reducible rfl))); (try simp only [Act.put, s1, s2, s3]))
  (refine takeH (i := 2) (oi := ?o46) (v := ?v46) ?h46 (by kernel_rfl) ?q46 (Or.inl ⟨?w46, ?y46⟩) (by assumption) ?r46; (case h46 => ((simp only [g1, g2, g3]); rfl)); (case q46 => exact fun _ _ _ h => h); (case w46 => rfl); (case y46 => (intro w' hSw; (try dsimp only at hSw); go_simp; (try with_reducible rfl))); (try simp only [Act.put, s1, s2, s3]))
  (refine takeH (i := 3) (oi := ?o47) (v := ?v47) ?h47 (by kernel_rfl) ?q47 (Or.inl ⟨?w47, ?y47⟩) (by assumption) ?r47; (case h47 => ((simp only [g1, g2, g3]); rfl)); (case q47 => exact fun _ _ _ h => h); (case w47 => rfl); (case y47 => (intro w' hSw; (try dsimp only at hSw); go_simp; (try with_reducible rfl))); (try simp only [Act.put, s1, s2, s3]))
  (refine takeH (i := 4) (oi := ?o48) (v := ?v48) ?h48 (by kernel_rfl) ?q48 (Or.inl ⟨?w48, ?y48⟩) (by assumption) ?r48; (case h48 => ((simp only [g1, g2, g3]); rfl)); (case q48 => exact fun _ _ _ h => h); (case w48 => rfl); (case y48 => (intro w' hSw; (try dsimp only at hSw); go_simp; (try with_reducible rfl))); (try simp only [Act.put, s1, s2, s3]))
  (refine takeH (i := 5) (oi := ?o49) (v := ?v49) ?h49 (by kernel_rfl) ?q49 (Or.inl ⟨?w49, ?y49⟩) (by assumption) ?r49; (case h49 => ((simp only [g1, g2, g3]); rfl)); (case q49 => exact fun _ _ _ h => h); (case w49 => rfl); (case y49 => (intro w' hSw; (try dsimp only at hSw); go_simp; (try with_reducible rfl))); (try simp only [Act.put, s1, s2, s3]))
  (refine takeH (i := 6) (oi := ?o50) (v := ?v50) ?h50 (by kernel_rfl) ?q50 (Or.inl ⟨?w50, ?y50⟩) (by assumption) ?r50; (case h50 => ((simp only [g1, g2, g3]); rfl)); (case q50 => exact fun _ _ _ h => h); (case w50 => rfl); (case y50 => (intro w' hSw; (try dsimp only at hSw); go_simp; (try with_reducible rfl))); (try simp only [Act.put, s1, s2, s3]))
  (refine takeH (i := 7) (oi := ?o51) (v := ?v51) ?h51 (by kernel_rfl) ?q51 (Or.inl ⟨?w51, ?y51⟩) (by assumption) ?r51; (case h51 => ((simp only [g1, g2, g3]); rfl)); (case q51 => exact fun _ _ _ h => h); (case w51 => rfl); (case y51 => (intro w' hSw; (try dsimp only at hSw); go_simp; (try with_reducible rfl))); (try simp only [Act.put, s1, s2, s3]))
  (refine takeH (i := 8) (oi := ?o52) (v := ?v52) ?h52 (by kernel_rfl) ?q52 (Or.inl ⟨?w52, ?y52⟩) (by assumption) ?r52; (case h52 => ((simp only [g1, g2, g3]); rfl)); (case q52 => exact fun _ _ _ h => h); (case w52 => rfl); (case y52 => (intro w' hSw; (try dsimp only at hSw); go_simp; (try with_reducible rfl))); (try simp only [Act.put, s1, s2, s3]))
  (refine takeH (i := 9) (oi := ?o53) (v := ?v53) ?h53 (by kernel_rfl) ?q53 (Or.inl ⟨?w53, ?y53⟩) (by assumption) ?r53; (case h53 => ((simp only [g1, g2, g3]); rfl)); (case q53 => exact fun _ _ _ h => h); (case w53 => rfl); (case y53 => (intro w' hSw; (try dsimp only at hSw); go_simp; (try with_reducible rfl))); (try simp only [Act.put, s1, s2, s3]))
  (refine takeH (i := 10) (oi := ?o54) (v := ?v54) ?h54 (by kernel_rfl) ?q54 (Or.inl ⟨?w54, ?y54⟩) (by assumption) ?r54; (case h54 => ((simp only [g1, g2, g3]); rfl)); (case q54 => exact fun _ _ _ h => h); (case w54 => rfl); (case y54 => (intro w' hSw; (try dsimp only at hSw); go_simp; (try with_reducible rfl))); (try simp only [Act.put, s1, s2, s3]))
  (refine takeH (i := 11) (oi := ?o55) (v := ?v55) ?h55 (by kernel_rfl) ?q55 (Or.inl ⟨?w55, ?y55⟩) (by assumption) ?r55; (case h55 => ((simp only [g1, g2, g3]); rfl)); (case q55 => exact fun _ _ _ h => h); (case w55 => rfl); (case y55 => (intro w' hSw; (try dsimp only at hSw); go_simp; (try with_reducible rfl))); (try simp only [Act.put, s1, s2, s3]))
  (refine takeH (i := 13) (oi := ?o56) (v := ?v56) ?h56 (by kernel_rfl) ?q56 (Or.inl ⟨?w56, ?y56⟩) (by assumption) ?r56; (case h56 => ((simp only [g1, g2, g3]); rfl)); (case q56 => exact fun _ _ _ h => h); (case w56 => rfl); (case y56 => (intro w' hSw; (try dsimp only at hSw); go_simp; (try with_reducible rfl))); (try simp only [Act.put, s1, s2, s3]))
  (refine takeH (i := 14) (oi := ?o57) (v := ?v57) ?h57 (by kernel_rfl) ?q57 (Or.inl ⟨?w57, ?y57⟩) (by assumption) ?r57; (case h57 => ((simp only [g1, g2, g3]); rfl)); (case q57 => exact fun _ _ _ h => h); (case w57 => rfl); (case y57 => (intro w' hSw; (try dsimp only at hSw); go_simp; (try with_reducible rfl))); (try simp only [Act.put, s1, s2, s3]))
  (refine wpAnyH_ready (rs := [12, 15]) (by kernel_rfl) (by simp) ?_; refine (AllReadyH.cons (o := ?o58) ?h58 (fun K hK => ?s58) (AllReadyH.cons (o := ?o59) ?h59 (fun K hK => ?s59) AllReadyH.nil)); (case h58 => (first | ((simp only [g1, g2, g3]); rfl) | rfl)); (case h59 => (first | ((simp only [g1, g2, g3]); rfl) | rfl)))
  (go_simp; (try dsimp only); refine hK.out _ _ ?_ (fun hHd => ?_); (focus ((try dsimp only); exact hHd)); clear hK K; (try simp only [Act.put, s1, s2, s3]))
  (refine wpAnyH_ready (rs := [15]) (by kernel_rfl) (by simp) ?_; refine AllReadyH.cons (o := ?o60) ?h60 (fun K hK => ?s60) AllReadyH.nil; (case h60 => (first | ((simp only [g1, g2, g3]); rfl) | rfl)); go_simp; (try dsimp only); refine hK.out _ _ ?_ (fun hHd => ?_); (focus ((try dsimp only); exact ⟨(show Kp w5 _ from (by (repeat (first | with_reducible assumption | with_reducible exact Kp.refl _ | with_reducible refine Kp.drew ?_ | with_reducible refine Kp.drewN ?_ _ | with_reducible refine Kp.alloc ?_ _ | ((with_reducible refine Kp.setCell ?_ ?_ _); rotate_left; (focus (first | omega | (simp; done) | (simp; omega)))) | with_reducible refine Kp.trans ?_ (by assumption))))).size, ((show Kp w5 _ from (by (repeat (first | with_reducible assumption | with_reducible exact Kp.refl _ | with_reducible refine Kp.drew ?_ | with_reducible refine Kp.drewN ?_ _ | with_reducible refine Kp.alloc ?_ _ | ((with_reducible refine Kp.setCell ?_ ?_ _); rotate_left; (focus (first | omega | (simp; done) | (simp; omega)))) | with_reducible refine Kp.trans ?_ (by assumption))))).cell (p := ⟨g, k * 4, none⟩) hgg5).trans p5, ((show Kp w5 _ from (by (repeat (first | with_reducible assumption | with_reducible exact Kp.refl _ | with_reducible refine Kp.drew ?_ | with_reducible refine Kp.drewN ?_ _ | with_reducible refine Kp.alloc ?_ _ | ((with_reducible refine Kp.setCell ?_ ?_ _); rotate_left; (focus (first | omega | (simp; done) | (simp; omega)))) | with_reducible refine Kp.trans ?_ (by assumption))))).cell (p := ⟨w4.heap.size, 0, none⟩) hX5).trans bt_0, ((show Kp w5 _ from (by (repeat (first | with_reducible assumption | with_reducible exact Kp.refl _ | with_reducible refine Kp.drew ?_ | with_reducible refine Kp.drewN ?_ _ | with_reducible refine Kp.alloc ?_ _ | ((with_reducible refine Kp.setCell ?_ ?_ _); rotate_left; (focus (first | omega | (simp; done) | (simp; omega)))) | with_reducible refine Kp.trans ?_ (by assumption))))).cell (p := ⟨w4.heap.size, 1, none⟩) hX5).trans bt_1, ((show Kp w5 _ from (by (repeat (first | with_reducible assumption | with_reducible exact Kp.refl _ | with_reducible refine Kp.drew ?_ | with_reducible refine Kp.drewN ?_ _ | with_reducible refine Kp.alloc ?_ _ | ((with_reducible refine Kp.setCell ?_ ?_ _); rotate_left; (focus (first | omega | (simp; done) | (simp; omega)))) | with_reducible refine Kp.trans ?_ (by assumption))))).cell (p := ⟨w4.heap.size, 2, none⟩) hX5).trans bt_2, ((show Kp w5 _ from (by (repeat (first | with_reducible assumption | with_reducible exact Kp.refl _ | with_reducible refine Kp.drew ?_ | with_reducible refine Kp.drewN ?_ _ | with_reducible refine Kp.alloc ?_ _ | ((with_reducible refine Kp.setCell ?_ ?_ _); rotate_left; (focus (first | omega | (simp; done) | (simp; omega)))) | with_reducible refine Kp.trans ?_ (by assumption))))).cell (p := ⟨w4.heap.size, 3, none⟩) hX5).trans bt_3, ((show Kp w5 _ from (by (repeat (first | with_reducible assumption | with_reducible exact Kp.refl _ | with_reducible refine Kp.drew ?_ | with_reducible refine Kp.drewN ?_ _ | with_reducible refine Kp.alloc ?_ _ | ((with_reducible refine Kp.setCell ?_ ?_ _); rotate_left; (focus (first | omega | (simp; done) | (simp; omega)))) | with_reducible refine Kp.trans ?_ (by assumption))))).cell (p := ⟨w4.heap.size, 4, none⟩) hX5).trans bt_4⟩)); clear hK K; (try simp only [Act.put, s1, s2, s3]))
  (refine wpAnyH_ready (rs := [16]) (by kernel_rfl) (by simp) ?_; refine AllReadyH.cons (o := ?o61) ?h61 (fun K hK => ?s61) AllReadyH.nil; (case h61 => (first | ((simp only [g1, g2, g3]); rfl) | rfl)); (refine rowAppendX (.tmp 128) (.tmp 131) 44 ?ho62 Tryd.underlying44 infoPt rfl (by decide) (HY.out.kp (show Kp w _ from (by (repeat (first | with_reducible assumption | with_reducible exact Kp.refl _ | with_reducible refine Kp.drew ?_ | with_reducible refine Kp.drewN ?_ _ | with_reducible refine Kp.alloc ?_ _ | ((with_reducible refine Kp.setCell ?_ ?_ _); rotate_left; (focus (first | omega | (simp; done) | (simp; omega)))) | with_reducible refine Kp.trans ?_ (by assumption)))))) ?hs62 (y := (⟨pk, pn, pll, py, ph⟩ : Put)) rfl (putOne _) (show Blk _ w5.heap.size (Put.cells (⟨pk, pn, pll, py, ph⟩ : Put)) 33 from (by (repeat (first | with_reducible assumption | ((with_reducible refine Blk.newL ?_ ?_); (focus (first | (simp; done) | omega)); rfl) | with_reducible refine Blk.drew ?_ | with_reducible refine Blk.drewN ?_ _ | with_reducible refine Blk.alloc ?_ _ | ((with_reducible refine Blk.other ?_ ?_ _); rotate_left; (focus (first | with_reducible assumption | omega | (simp; done) | (simp; omega)))))))) ?hx62 ?hl62 ?hb62 ?hz62 ?_; (case ho62 => rfl); (case hs62 => rfl); (case hx62 => rfl); (case hl62 => unfold maxLen; omega); (case hb62 => omega); (case hz62 => exact Nat.le_trans hb (show Kp w _ from (by (repeat (first | with_reducible assumption | with_reducible exact Kp.refl _ | with_reducible refine Kp.drew ?_ | with_reducible refine Kp.drewN ?_ _ | with_reducible refine Kp.alloc ?_ _ | ((with_reducible refine Kp.setCell ?_ ?_ _); rotate_left; (focus (first | omega | (simp; done) | (simp; omega)))) | with_reducible refine Kp.trans ?_ (by assumption))))).size); intro v' w6 hr' hg hloc; obtain ⟨a5, c5, rfl, _⟩ := hr'.sl (fun _ => rfl); have hgs := hg.size; have hkB : ∀ b, w.heap.size ≤ b → b < w5.heap.size → w6.heap[b]? = w5.heap[b]? := fun b hb1 hb2 => (hg.block b (Nat.lt_of_lt_of_le hb2 (show Kp w5 _ from (by (repeat (first | with_reducible assumption | with_reducible exact Kp.refl _ | with_reducible refine Kp.drew ?_ | with_reducible refine Kp.drewN ?_ _ | with_reducible refine Kp.alloc ?_ _ | ((with_reducible refine Kp.setCell ?_ ?_ _); rotate_left; (focus (first | omega | (simp; done) | (simp; omega)))) | with_reducible refine Kp.trans ?_ (by assumption))))).size) (fun e' => by have := (HYG.out b e'.symm).1; omega)).trans (Below.block (show Kp w5 _ from (by (repeat (first | with_reducible assumption | with_reducible exact Kp.refl _ | with_reducible refine Kp.drew ?_ | with_reducible refine Kp.drewN ?_ _ | with_reducible refine Kp.alloc ?_ _ | ((with_reducible refine Kp.setCell ?_ ?_ _); rotate_left; (focus (first | omega | (simp; done) | (simp; omega)))) | with_reducible refine Kp.trans ?_ (by assumption))))) b hb2); have hpr := HL.out.stay (w' := w6) (fun b hb1 => by cases hb1; exact (hg.block h (Nat.lt_of_lt_of_le hhh (show Kp w _ from (by (repeat (first | with_reducible assumption | with_reducible exact Kp.refl _ | with_reducible refine Kp.drew ?_ | with_reducible refine Kp.drewN ?_ _ | with_reducible refine Kp.alloc ?_ _ | ((with_reducible refine Kp.setCell ?_ ?_ _); rotate_left; (focus (first | omega | (simp; done) | (simp; omega)))) | with_reducible refine Kp.trans ?_ (by assumption))))).size) (fun e' => (HYG.out h e'.symm).2.1 rfl)).trans (Below.block (show Kp w _ from (by (repeat (first | with_reducible assumption | with_reducible exact Kp.refl _ | with_reducible refine Kp.drew ?_ | with_reducible refine Kp.drewN ?_ _ | with_reducible refine Kp.alloc ?_ _ | ((with_reducible refine Kp.setCell ?_ ?_ _); rotate_left; (focus (first | omega | (simp; done) | (simp; omega)))) | with_reducible refine Kp.trans ?_ (by assumption))))) h hhh)); have hgB : w6.heap[g]? = w5.heap[g]? := (hg.block g (Nat.lt_of_lt_of_le hgg5 (show Kp w5 _ from (by (repeat (first | with_reducible assumption | with_reducible exact Kp.refl _ | with_reducible refine Kp.drew ?_ | with_reducible refine Kp.drewN ?_ _ | with_reducible refine Kp.alloc ?_ _ | ((with_reducible refine Kp.setCell ?_ ?_ _); rotate_left; (focus (first | omega | (simp; done) | (simp; omega)))) | with_reducible refine Kp.trans ?_ (by assumption))))).size) (fun e' => (HYG.out g e'.symm).2.2 rfl)).trans (Below.block (show Kp w5 _ from (by (repeat (first | with_reducible assumption | with_reducible exact Kp.refl _ | with_reducible refine Kp.drew ?_ | with_reducible refine Kp.drewN ?_ _ | with_reducible refine Kp.alloc ?_ _ | ((with_reducible refine Kp.setCell ?_ ?_ _); rotate_left; (focus (first | omega | (simp; done) | (simp; omega)))) | with_reducible refine Kp.trans ?_ (by assumption))))) g hgg5); have l6 := Row.cellN (enc := Lane.cells) (fun _ => rfl) hpr rfl (get_last hm) (j := 1) rfl; have f6 := Row.freeN hpr rfl (m * 2 + 1); have htw := twain_store (show Kp w _ from (by (repeat (first | with_reducible assumption | with_reducible exact Kp.refl _ | with_reducible refine Kp.drew ?_ | with_reducible refine Kp.drewN ?_ _ | with_reducible refine Kp.alloc ?_ _ | ((with_reducible refine Kp.setCell ?_ ?_ _); rotate_left; (focus (first | omega | (simp; done) | (simp; omega)))) | with_reducible refine Kp.trans ?_ (by assumption))))) hg h (m * 2 + 1) (.slice a5 (yl ++ [(⟨pk, pn, pll, py, ph⟩ : Put)]).length c5); have hlw : (Value.slice a5 (yl ++ [(⟨pk, pn, pll, py, ph⟩ : Put)]).length c5).ownBlock = (Value.slice ya yl.length yc).ownBlock ∨ ∃ b, (Value.slice a5 (yl ++ [(⟨pk, pn, pll, py, ph⟩ : Put)]).length c5).ownBlock = some b ∧ w.heap.size ≤ b := hloc.imp id (fun h => ⟨_, h, (show Kp w _ from (by (repeat (first | with_reducible assumption | with_reducible exact Kp.refl _ | with_reducible refine Kp.drew ?_ | with_reducible refine Kp.drewN ?_ _ | with_reducible refine Kp.alloc ?_ _ | ((with_reducible refine Kp.setCell ?_ ?_ _); rotate_left; (focus (first | omega | (simp; done) | (simp; omega)))) | with_reducible refine Kp.trans ?_ (by assumption))))).size⟩); have hS6 : w5.heap.size ≤ w6.heap.size := Nat.le_trans (show Kp w5 _ from (by (repeat (first | with_reducible assumption | with_reducible exact Kp.refl _ | with_reducible refine Kp.drew ?_ | with_reducible refine Kp.drewN ?_ _ | with_reducible refine Kp.alloc ?_ _ | ((with_reducible refine Kp.setCell ?_ ?_ _); rotate_left; (focus (first | omega | (simp; done) | (simp; omega)))) | with_reducible refine Kp.trans ?_ (by assumption))))).size hgs; clear hgs); refine hK.out _ _ ?_ (fun hHd => ?_); (focus ((try dsimp only); exact ⟨hS6, (cell_heap hgB _).trans p5, (cell_heap (hkB _ hX4 hX5) _).trans bt_0, (cell_heap (hkB _ hX4 hX5) _).trans bt_1, (cell_heap (hkB _ hX4 hX5) _).trans bt_2, (cell_heap (hkB _ hX4 hX5) _).trans bt_3, (cell_heap (hkB _ hX4 hX5) _).trans bt_4⟩)); clear hK K; (try simp only [Act.put]))
  (refine takeH (i := 17) (oi := ?o63) (v := ?v63) ?h63 (by kernel_rfl) ?q63 (Or.inl ⟨?w63, ?y63⟩) (by assumption) ?r63; (case h63 => ((simp only [g1, g2, g3]); rfl)); (case q63 => exact fun _ _ _ h => h); (case w63 => rfl); (case y63 => (intro w' hSw; (try dsimp only at hSw); go_simp; (try with_reducible rfl))); (try simp only [Act.put, s1, s2, s3]))
  (refine takeH (i := 18) (oi := ?o64) (v := ?v64) ?h64 (by kernel_rfl) ?q64 (Or.inl ⟨?w64, ?y64⟩) (by assumption) ?r64; (case h64 => ((simp only [g1, g2, g3]); rfl)); (case q64 => exact fun _ _ _ h => h); (case w64 => rfl); (case y64 => (intro w' hSw; (try dsimp only at hSw); go_simp; (try with_reducible rfl))); (try simp only [Act.put, s1, s2, s3]))
  (refine wpAnyH_ready (rs := [19]) (by kernel_rfl) (by simp) ?_; refine AllReadyH.cons (o := ?o65) ?h65 (fun K hK => ?s65) AllReadyH.nil; (case h65 => (first | ((simp only [g1, g2, g3]); rfl) | rfl)); go_simp; (try dsimp only); refine hK.out _ _ ?_ (fun hHd => ?_); (focus ((try dsimp only); exact ⟨by simpa using hS6, (cell_heap (Below.heap_setCell _ _ _ _ (by show g ≠ h; exact hgh)) _).trans ((cell_heap hgB _).trans p5), (cell_heap (Below.heap_setCell _ _ _ _ (by show w4.heap.size ≠ h; omega)) _).trans ((cell_heap (hkB _ hX4 hX5) _).trans bt_0), (cell_heap (Below.heap_setCell _ _ _ _ (by show w4.heap.size ≠ h; omega)) _).trans ((cell_heap (hkB _ hX4 hX5) _).trans bt_1), (cell_heap (Below.heap_setCell _ _ _ _ (by show w4.heap.size ≠ h; omega)) _).trans ((cell_heap (hkB _ hX4 hX5) _).trans bt_2), (cell_heap (Below.heap_setCell _ _ _ _ (by show w4.heap.size ≠ h; omega)) _).trans ((cell_heap (hkB _ hX4 hX5) _).trans bt_3), (cell_heap (Below.heap_setCell _ _ _ _ (by show w4.heap.size ≠ h; omega)) _).trans ((cell_heap (hkB _ hX4 hX5) _).trans bt_4)⟩)); clear hK K; (try simp only [Act.put, s1, s2, s3]))
  refine wpAnyH_done (by kernel_rfl) ?_ _
  rotate_left
  (go_simp; (try dsimp only); refine hK.out _ _ ?_ (fun hHd => ?_); (focus ((try dsimp only); exact ⟨(show Kp w5 _ from (by (repeat (first | with_reducible assumption | with_reducible exact Kp.refl _ | with_reducible refine Kp.drew ?_ | with_reducible refine Kp.drewN ?_ _ | with_reducible refine Kp.alloc ?_ _ | ((with_reducible refine Kp.setCell ?_ ?_ _); rotate_left; (focus (first | omega | (simp; done) | (simp; omega)))) | with_reducible refine Kp.trans ?_ (by assumption))))).size, ((show Kp w5 _ from (by (repeat (first | with_reducible assumption | with_reducible exact Kp.refl _ | with_reducible refine Kp.drew ?_ | with_reducible refine Kp.drewN ?_ _ | with_reducible refine Kp.alloc ?_ _ | ((with_reducible refine Kp.setCell ?_ ?_ _); rotate_left; (focus (first | omega | (simp; done) | (simp; omega)))) | with_reducible refine Kp.trans ?_ (by assumption))))).cell (p := ⟨g, k * 4, none⟩) hgg5).trans p5, ((show Kp w5 _ from (by (repeat (first | with_reducible assumption | with_reducible exact Kp.refl _ | with_reducible refine Kp.drew ?_ | with_reducible refine Kp.drewN ?_ _ | with_reducible refine Kp.alloc ?_ _ | ((with_reducible refine Kp.setCell ?_ ?_ _); rotate_left; (focus (first | omega | (simp; done) | (simp; omega)))) | with_reducible refine Kp.trans ?_ (by assumption))))).cell (p := ⟨w4.heap.size, 0, none⟩) hX5).trans bt_0, ((show Kp w5 _ from (by (repeat (first | with_reducible assumption | with_reducible exact Kp.refl _ | with_reducible refine Kp.drew ?_ | with_reducible refine Kp.drewN ?_ _ | with_reducible refine Kp.alloc ?_ _ | ((with_reducible refine Kp.setCell ?_ ?_ _); rotate_left; (focus (first | omega | (simp; done) | (simp; omega)))) | with_reducible refine Kp.trans ?_ (by assumption))))).cell (p := ⟨w4.heap.size, 1, none⟩) hX5).trans bt_1, ((show Kp w5 _ from (by (repeat (first | with_reducible assumption | with_reducible exact Kp.refl _ | with_reducible refine Kp.drew ?_ | with_reducible refine Kp.drewN ?_ _ | with_reducible refine Kp.alloc ?_ _ | ((with_reducible refine Kp.setCell ?_ ?_ _); rotate_left; (focus (first | omega | (simp; done) | (simp; omega)))) | with_reducible refine Kp.trans ?_ (by assumption))))).cell (p := ⟨w4.heap.size, 2, none⟩) hX5).trans bt_2, ((show Kp w5 _ from (by (repeat (first | with_reducible assumption | with_reducible exact Kp.refl _ | with_reducible refine Kp.drew ?_ | with_reducible refine Kp.drewN ?_ _ | with_reducible refine Kp.alloc ?_ _ | ((with_reducible refine Kp.setCell ?_ ?_ _); rotate_left; (focus (first | omega | (simp; done) | (simp; omega)))) | with_reducible refine Kp.trans ?_ (by assumption))))).cell (p := ⟨w4.heap.size, 3, none⟩) hX5).trans bt_3, ((show Kp w5 _ from (by (repeat (first | with_reducible assumption | with_reducible exact Kp.refl _ | with_reducible refine Kp.drew ?_ | with_reducible refine Kp.drewN ?_ _ | with_reducible refine Kp.alloc ?_ _ | ((with_reducible refine Kp.setCell ?_ ?_ _); rotate_left; (focus (first | omega | (simp; done) | (simp; omega)))) | with_reducible refine Kp.trans ?_ (by assumption))))).cell (p := ⟨w4.heap.size, 4, none⟩) hX5).trans bt_4⟩)); clear hK K; (try simp only [Act.put, s1, s2, s3]))
  (refine wpAnyH_ready (rs := [12]) (by kernel_rfl) (by simp) ?_; refine AllReadyH.cons (o := ?o66) ?h66 (fun K hK => ?s66) AllReadyH.nil; (case h66 => (first | ((simp only [g1, g2, g3]); rfl) | rfl)); go_simp; (try dsimp only); refine hK.out _ _ ?_ (fun hHd => ?_); (focus ((try dsimp only); exact hHd)); clear hK K; (try simp only [Act.put, s1, s2, s3]))
  (refine wpAnyH_ready (rs := [16]) (by kernel_rfl) (by simp) ?_; refine AllReadyH.cons (o := ?o67) ?h67 (fun K hK => ?s67) AllReadyH.nil; (case h67 => (first | ((simp only [g1, g2, g3]); rfl) | rfl)); (refine rowAppendX (.tmp 128) (.tmp 131) 44 ?ho68 Tryd.underlying44 infoPt rfl (by decide) (HY.out.kp (show Kp w _ from (by (repeat (first | with_reducible assumption | with_reducible exact Kp.refl _ | with_reducible refine Kp.drew ?_ | with_reducible refine Kp.drewN ?_ _ | with_reducible refine Kp.alloc ?_ _ | ((with_reducible refine Kp.setCell ?_ ?_ _); rotate_left; (focus (first | omega | (simp; done) | (simp; omega)))) | with_reducible refine Kp.trans ?_ (by assumption)))))) ?hs68 (y := (⟨pk, pn, pll, py, ph⟩ : Put)) rfl (putOne _) (show Blk _ w5.heap.size (Put.cells (⟨pk, pn, pll, py, ph⟩ : Put)) 33 from (by (repeat (first | with_reducible assumption | ((with_reducible refine Blk.newL ?_ ?_); (focus (first | (simp; done) | omega)); rfl) | with_reducible refine Blk.drew ?_ | with_reducible refine Blk.drewN ?_ _ | with_reducible refine Blk.alloc ?_ _ | ((with_reducible refine Blk.other ?_ ?_ _); rotate_left; (focus (first | with_reducible assumption | omega | (simp; done) | (simp; omega)))))))) ?hx68 ?hl68 ?hb68 ?hz68 ?_; (case ho68 => rfl); (case hs68 => rfl); (case hx68 => rfl); (case hl68 => unfold maxLen; omega); (case hb68 => omega); (case hz68 => exact Nat.le_trans hb (show Kp w _ from (by (repeat (first | with_reducible assumption | with_reducible exact Kp.refl _ | with_reducible refine Kp.drew ?_ | with_reducible refine Kp.drewN ?_ _ | with_reducible refine Kp.alloc ?_ _ | ((with_reducible refine Kp.setCell ?_ ?_ _); rotate_left; (focus (first | omega | (simp; done) | (simp; omega)))) | with_reducible refine Kp.trans ?_ (by assumption))))).size); intro v' w6 hr' hg hloc; obtain ⟨a5, c5, rfl, _⟩ := hr'.sl (fun _ => rfl); have hgs := hg.size; have hkB : ∀ b, w.heap.size ≤ b → b < w5.heap.size → w6.heap[b]? = w5.heap[b]? := fun b hb1 hb2 => (hg.block b (Nat.lt_of_lt_of_le hb2 (show Kp w5 _ from (by (repeat (first | with_reducible assumption | with_reducible exact Kp.refl _ | with_reducible refine Kp.drew ?_ | with_reducible refine Kp.drewN ?_ _ | with_reducible refine Kp.alloc ?_ _ | ((with_reducible refine Kp.setCell ?_ ?_ _); rotate_left; (focus (first | omega | (simp; done) | (simp; omega)))) | with_reducible refine Kp.trans ?_ (by assumption))))).size) (fun e' => by have := (HYG.out b e'.symm).1; omega)).trans (Below.block (show Kp w5 _ from (by (repeat (first | with_reducible assumption | with_reducible exact Kp.refl _ | with_reducible refine Kp.drew ?_ | with_reducible refine Kp.drewN ?_ _ | with_reducible refine Kp.alloc ?_ _ | ((with_reducible refine Kp.setCell ?_ ?_ _); rotate_left; (focus (first | omega | (simp; done) | (simp; omega)))) | with_reducible refine Kp.trans ?_ (by assumption))))) b hb2); have hpr := HL.out.stay (w' := w6) (fun b hb1 => by cases hb1; exact (hg.block h (Nat.lt_of_lt_of_le hhh (show Kp w _ from (by (repeat (first | with_reducible assumption | with_reducible exact Kp.refl _ | with_reducible refine Kp.drew ?_ | with_reducible refine Kp.drewN ?_ _ | with_reducible refine Kp.alloc ?_ _ | ((with_reducible refine Kp.setCell ?_ ?_ _); rotate_left; (focus (first | omega | (simp; done) | (simp; omega)))) | with_reducible refine Kp.trans ?_ (by assumption))))).size) (fun e' => (HYG.out h e'.symm).2.1 rfl)).trans (Below.block (show Kp w _ from (by (repeat (first | with_reducible assumption | with_reducible exact Kp.refl _ | with_reducible refine Kp.drew ?_ | with_reducible refine Kp.drewN ?_ _ | with_reducible refine Kp.alloc ?_ _ | ((with_reducible refine Kp.setCell ?_ ?_ _); rotate_left; (focus (first | omega | (simp; done) | (simp; omega)))) | with_reducible refine Kp.trans ?_ (by assumption))))) h hhh)); have hgB : w6.heap[g]? = w5.heap[g]? := (hg.block g (Nat.lt_of_lt_of_le hgg5 (show Kp w5 _ from (by (repeat (first | with_reducible assumption | with_reducible exact Kp.refl _ | with_reducible refine Kp.drew ?_ | with_reducible refine Kp.drewN ?_ _ | with_reducible refine Kp.alloc ?_ _ | ((with_reducible refine Kp.setCell ?_ ?_ _); rotate_left; (focus (first | omega | (simp; done) | (simp; omega)))) | with_reducible refine Kp.trans ?_ (by assumption))))).size) (fun e' => (HYG.out g e'.symm).2.2 rfl)).trans (Below.block (show Kp w5 _ from (by (repeat (first | with_reducible assumption | with_reducible exact Kp.refl _ | with_reducible refine Kp.drew ?_ | with_reducible refine Kp.drewN ?_ _ | with_reducible refine Kp.alloc ?_ _ | ((with_reducible refine Kp.setCell ?_ ?_ _); rotate_left; (focus (first | omega | (simp; done) | (simp; omega)))) | with_reducible refine Kp.trans ?_ (by assumption))))) g hgg5); have l6 := Row.cellN (enc := Lane.cells) (fun _ => rfl) hpr rfl (get_last hm) (j := 1) rfl; have f6 := Row.freeN hpr rfl (m * 2 + 1); have htw := twain_store (show Kp w _ from (by (repeat (first | with_reducible assumption | with_reducible exact Kp.refl _ | with_reducible refine Kp.drew ?_ | with_reducible refine Kp.drewN ?_ _ | with_reducible refine Kp.alloc ?_ _ | ((with_reducible refine Kp.setCell ?_ ?_ _); rotate_left; (focus (first | omega | (simp; done) | (simp; omega)))) | with_reducible refine Kp.trans ?_ (by assumption))))) hg h (m * 2 + 1) (.slice a5 (yl ++ [(⟨pk, pn, pll, py, ph⟩ : Put)]).length c5); have hlw : (Value.slice a5 (yl ++ [(⟨pk, pn, pll, py, ph⟩ : Put)]).length c5).ownBlock = (Value.slice ya yl.length yc).ownBlock ∨ ∃ b, (Value.slice a5 (yl ++ [(⟨pk, pn, pll, py, ph⟩ : Put)]).length c5).ownBlock = some b ∧ w.heap.size ≤ b := hloc.imp id (fun h => ⟨_, h, (show Kp w _ from (by (repeat (first | with_reducible assumption | with_reducible exact Kp.refl _ | with_reducible refine Kp.drew ?_ | with_reducible refine Kp.drewN ?_ _ | with_reducible refine Kp.alloc ?_ _ | ((with_reducible refine Kp.setCell ?_ ?_ _); rotate_left; (focus (first | omega | (simp; done) | (simp; omega)))) | with_reducible refine Kp.trans ?_ (by assumption))))).size⟩); have hS6 : w5.heap.size ≤ w6.heap.size := Nat.le_trans (show Kp w5 _ from (by (repeat (first | with_reducible assumption | with_reducible exact Kp.refl _ | with_reducible refine Kp.drew ?_ | with_reducible refine Kp.drewN ?_ _ | with_reducible refine Kp.alloc ?_ _ | ((with_reducible refine Kp.setCell ?_ ?_ _); rotate_left; (focus (first | omega | (simp; done) | (simp; omega)))) | with_reducible refine Kp.trans ?_ (by assumption))))).size hgs; clear hgs); refine hK.out _ _ ?_ (fun hHd => ?_); (focus ((try dsimp only); exact ⟨hS6, (cell_heap hgB _).trans p5, (cell_heap (hkB _ hX4 hX5) _).trans bt_0, (cell_heap (hkB _ hX4 hX5) _).trans bt_1, (cell_heap (hkB _ hX4 hX5) _).trans bt_2, (cell_heap (hkB _ hX4 hX5) _).trans bt_3, (cell_heap (hkB _ hX4 hX5) _).trans bt_4⟩)); clear hK K; (try simp only [Act.put]))
  (refine takeH (i := 17) (oi := ?o69) (v := ?v69) ?h69 (by kernel_rfl) ?q69 (Or.inl ⟨?w69, ?y69⟩) (by assumption) ?r69; (case h69 => ((simp only [g1, g2, g3]); rfl)); (case q69 => exact fun _ _ _ h => h); (case w69 => rfl); (case y69 => (intro w' hSw; (try dsimp only at hSw); go_simp; (try with_reducible rfl))); (try simp only [Act.put, s1, s2, s3]))
  (refine takeH (i := 18) (oi := ?o70) (v := ?v70) ?h70 (by kernel_rfl) ?q70 (Or.inl ⟨?w70, ?y70⟩) (by assumption) ?r70; (case h70 => ((simp only [g1, g2, g3]); rfl)); (case q70 => exact fun _ _ _ h => h); (case w70 => rfl); (case y70 => (intro w' hSw; (try dsimp only at hSw); go_simp; (try with_reducible rfl))); (try simp only [Act.put, s1, s2, s3]))
  (refine wpAnyH_ready (rs := [19]) (by kernel_rfl) (by simp) ?_; refine AllReadyH.cons (o := ?o71) ?h71 (fun K hK => ?s71) AllReadyH.nil; (case h71 => (first | ((simp only [g1, g2, g3]); rfl) | rfl)); go_simp; (try dsimp only); refine hK.out _ _ ?_ (fun hHd => ?_); (focus ((try dsimp only); exact ⟨by simpa using hS6, (cell_heap (Below.heap_setCell _ _ _ _ (by show g ≠ h; exact hgh)) _).trans ((cell_heap hgB _).trans p5), (cell_heap (Below.heap_setCell _ _ _ _ (by show w4.heap.size ≠ h; omega)) _).trans ((cell_heap (hkB _ hX4 hX5) _).trans bt_0), (cell_heap (Below.heap_setCell _ _ _ _ (by show w4.heap.size ≠ h; omega)) _).trans ((cell_heap (hkB _ hX4 hX5) _).trans bt_1), (cell_heap (Below.heap_setCell _ _ _ _ (by show w4.heap.size ≠ h; omega)) _).trans ((cell_heap (hkB _ hX4 hX5) _).trans bt_2), (cell_heap (Below.heap_setCell _ _ _ _ (by show w4.heap.size ≠ h; omega)) _).trans ((cell_heap (hkB _ hX4 hX5) _).trans bt_3), (cell_heap (Below.heap_setCell _ _ _ _ (by show w4.heap.size ≠ h; omega)) _).trans ((cell_heap (hkB _ hX4 hX5) _).trans bt_4)⟩)); clear hK K; (try simp only [Act.put, s1, s2, s3]))
  refine wpAnyH_done (by kernel_rfl) ?_ _
  rotate_left
  · have hls6 := Row.setN (enc := Lane.cells) (fun _ => rfl) hpr rfl (get_last hm) (j := 1) (y := (⟨yx, ⟨a5, yl.length + 1, c5, yl ++ [(⟨pk, pn, pll, py, ph⟩ : Put)]⟩⟩ : Lane)) (u := .slice a5 (yl ++ [(⟨pk, pn, pll, py, ph⟩ : Put)]).length c5) (by decide) (by simp [Lane.cells])
    rw [set_last hm] at hls6
    have hys6 := hr'.stay (w' := w6.setCell ⟨h, m * 2 + 1, none⟩ (.slice a5 (yl ++ [(⟨pk, pn, pll, py, ph⟩ : Put)]).length c5)) (fun b hb1 => Below.heap_setCell _ _ _ _ (fun e => by
      rcases hlw with h' | ⟨b2, h', h2⟩
      · rw [hb1] at h'
        exact (HYG.out b h'.symm).2.1 e
      · rw [hb1] at h'
        cases h'
        have : b = h := e
        omega))
    simp only [List.length_append, List.length_singleton] at hls6 hys6 htw hlw ⊢
    clear hHd
    have br6 : Blk (w6.setCell ⟨h, m * 2 + 1, none⟩ (.slice a5 (yl.length + 1) c5)) w.heap.size [.slice none 0 0, .int .i64 0, .bool false] 27 := ⟨(Below.heap_setCell _ _ _ _ (by show w.heap.size ≠ h; omega)).trans ((hkB _ (Nat.le_refl _) br5.lt).trans br5.heap)⟩
    clear hkB bt br5 l6 f6 hpr hr' hg hloc hgB p5 l5
    generalize w6.setCell ⟨h, m * 2 + 1, none⟩ (.slice a5 (yl.length + 1) c5) = w7 at hls6 hys6 htw br6 ⊢
    have br6l := br6.lt
    have y0 := br6.cell 0 rfl
    have y1 := br6.cell 1 rfl
    have y2 := br6.cell 2 rfl
    have f0 := br6.free 0
    have f1 := br6.free 1
    have f2 := br6.free 2
    go_wp2_with fail
    have zz := (((br6.set 0 (.slice (some ⟨g, 0, none⟩) (k + 1) vc)).set 1 (.int .i64 0)).set 2 (.bool true))
    have x0 := zz.cell 0 rfl
    have x1 := zz.cell 1 rfl
    have x2 := zz.cell 2 rfl
    clear y0 y1 y2
    refine bodyPost_ret (v := .agg #[.slice (some ⟨g, 0, none⟩) (k + 1) vc, .int .i64 0, .bool true]) (by simp [results, Tryd.results22, go_sem, x0, x1, x2]) rfl ?_
    exact ⟨_, _, rfl, row_away (row_away (row_away hls6 br6 (by decide) 0 _) (br6.set 0 _) (by decide) 1 _) ((br6.set 0 _).set 1 _) (by decide) 2 _, row_away (row_away (row_away hys6 br6 (by decide) 0 _) (br6.set 0 _) (by decide) 1 _) ((br6.set 0 _).set 1 _) (by decide) 2 _,
      ((htw.set (Nat.le_refl _) 0 _).set (Nat.le_refl _) 1 _).set (Nat.le_refl _) 2 _, hlw⟩
  · have hls6 := Row.setN (enc := Lane.cells) (fun _ => rfl) hpr rfl (get_last hm) (j := 1) (y := (⟨yx, ⟨a5, yl.length + 1, c5, yl ++ [(⟨pk, pn, pll, py, ph⟩ : Put)]⟩⟩ : Lane)) (u := .slice a5 (yl ++ [(⟨pk, pn, pll, py, ph⟩ : Put)]).length c5) (by decide) (by simp [Lane.cells])
    rw [set_last hm] at hls6
    have hys6 := hr'.stay (w' := w6.setCell ⟨h, m * 2 + 1, none⟩ (.slice a5 (yl ++ [(⟨pk, pn, pll, py, ph⟩ : Put)]).length c5)) (fun b hb1 => Below.heap_setCell _ _ _ _ (fun e => by
      rcases hlw with h' | ⟨b2, h', h2⟩
      · rw [hb1] at h'
        exact (HYG.out b h'.symm).2.1 e
      · rw [hb1] at h'
        cases h'
        have : b = h := e
        omega))
    simp only [List.length_append, List.length_singleton] at hls6 hys6 htw hlw ⊢
    clear hHd
    have br6 : Blk (w6.setCell ⟨h, m * 2 + 1, none⟩ (.slice a5 (yl.length + 1) c5)) w.heap.size [.slice none 0 0, .int .i64 0, .bool false] 27 := ⟨(Below.heap_setCell _ _ _ _ (by show w.heap.size ≠ h; omega)).trans ((hkB _ (Nat.le_refl _) br5.lt).trans br5.heap)⟩
    clear hkB bt br5 l6 f6 hpr hr' hg hloc hgB p5 l5
    generalize w6.setCell ⟨h, m * 2 + 1, none⟩ (.slice a5 (yl.length + 1) c5) = w7 at hls6 hys6 htw br6 ⊢
    have br6l := br6.lt
    have y0 := br6.cell 0 rfl
    have y1 := br6.cell 1 rfl
    have y2 := br6.cell 2 rfl
    have f0 := br6.free 0
    have f1 := br6.free 1
    have f2 := br6.free 2
    go_wp2_with fail
    have zz := (((br6.set 0 (.slice (some ⟨g, 0, none⟩) (k + 1) vc)).set 1 (.int .i64 0)).set 2 (.bool true))
    have x0 := zz.cell 0 rfl
    have x1 := zz.cell 1 rfl
    have x2 := zz.cell 2 rfl
    clear y0 y1 y2
    refine bodyPost_ret (v := .agg #[.slice (some ⟨g, 0, none⟩) (k + 1) vc, .int .i64 0, .bool true]) (by simp [results, Tryd.results22, go_sem, x0, x1, x2]) rfl ?_
    exact ⟨_, _, rfl, row_away (row_away (row_away hls6 br6 (by decide) 0 _) (br6.set 0 _) (by decide) 1 _) ((br6.set 0 _).set 1 _) (by decide) 2 _, row_away (row_away (row_away hys6 br6 (by decide) 0 _) (br6.set 0 _) (by decide) 1 _) ((br6.set 0 _).set 1 _) (by decide) 2 _,
      ((htw.set (Nat.le_refl _) 0 _).set (Nat.le_refl _) 1 _).set (Nat.le_refl _) 2 _, hlw⟩
end Go.Proofs.YteadhacoglcbfaaDoor
namespace Go.Proofs.YteadhacoglcbfaaDoor

open Go.ChangeShapes Go.WideShapes Go.ChangeAt Go.RowKit Go.Shelf

def KeepsP (W w1 w2 : World) : Prop := Kp W w2 ∧ ∀ B cs, Blk w1 B cs 27 → Blk w2 B cs 27
/-- What the document's step leaves. -/
def OneEnd (W : World) (ds : List PgD) (line : List UInt8) (w1 : World) (e : Ending) (w2 : World) : Prop :=
  KeepsP W w1 w2 ∧ ∃ a n c, e = .returned (.agg #[.slice a n c, .int .i64 0, .bool (takeP ds line).isSome]) ∧ ∀ ds', takeP ds line = some ds' → Rep w2 W.heap.size (.slice a n c) ds'
theorem one_any (W : World) (ds : List PgD) (v : Value) (line : List UInt8) (w1 : World) (k1 : Kp W w1) (hR : Rep w1 W.heap.size v ds) (hl : line.length ≤ 10000) (hm : mass ds ≤ 2000) :
    Calls Tryd.prog 22 #[v, sv line] w1 (OneEnd W ds line w1) := by
  obtain ⟨w0, ws, hw⟩ := List.exists_cons_of_ne_nil (splitW_ne line)
  have hh : headW line = w0 := by unfold headW; rw [hw]; rfl
  have hn : (numsL line)[0]? = some (numN line 0) ∧ (numsL line)[1]? = some (numN line 1) ∧ (numsL line)[2]? = some (numN line 2) ∧ (numsL line)[3]? = some (numN line 3) :=
    ⟨numsL_at line (by omega), numsL_at line (by omega), numsL_at line (by omega), numsL_at line (by omega)⟩
  have hlen : ds.length ≤ 2000 := by unfold mass at hm; omega
  by_cases h1 : w0 = wPage
  · subst h1
    obtain ⟨ps, hps, hr, hnew⟩ := rep_page hR
    refine (one_page line ws hw _ _ _ hn.2 ⟨numN_i64 line 1, numN_i64 line 2, numN_i64 line 3⟩ hl W.heap.size ps v (by omega) w1 hr k1.size _ _ rfl rfl).mono ?_
    rintro e w2 ⟨v', rfl, hr', hg⟩
    have ht := takeP_page (ds := ds) hh (by omega)
    obtain ⟨a, m, c, rfl⟩ : ∃ a m c, v' = .slice a m c := by
      obtain ⟨a, c, hv', _⟩ := hr'.sl (fun _ => rfl)
      exact ⟨a, _, c, hv'⟩
    refine ⟨⟨k1.grown1 hg (fun b h => (hr.lt b h).1), fun B cs hB => hB.grown1 hg (own_ne hr hB (by decide))⟩, a, m, c, ?_, fun ds' hd => ?_⟩
    · rw [ht, hps]
      by_cases e : lineL wPage [(ds.length : Int), numN line 1, numN line 2, numN line 3] = line
      · rw [if_pos e, beq_iff_eq.2 e]; rfl
      · rw [if_neg e, beq_eq_false_iff_ne.2 e]; rfl
    · rw [ht] at hd
      by_cases e : lineL wPage [(ds.length : Int), numN line 1, numN line 2, numN line 3] = line
      · rw [if_pos e] at hd
        cases hd
        exact hnew w2 _ _ _ _ hr' hg
      · rw [if_neg e] at hd
        cases hd
  have hhp : headW line ≠ wPage := by rw [hh]; exact h1
  rcases List.eq_nil_or_concat ds with rfl | ⟨es, d, rfl⟩
  · have hv := hR.empty
    subst hv
    refine (one_nopage line w0 ws hw h1 _ _ _ _ hn hl w1).mono ?_
    rintro e w2 ⟨rfl, k2⟩
    exact ⟨⟨k1.trans k2, fun B cs hB => hB.kp k2⟩, none, 0, 0, by rw [takeP_nopage hhp]; rfl, fun ds' hd => by rw [takeP_nopage hhp] at hd; cases hd⟩
  rw [List.concat_eq_append] at *
  have hma := mass_last (es := es) (d := d)
  by_cases h2 : w0 = wLane
  · subst h2
    obtain ⟨g, k, vc, la, lc, ll, qs, pt, pf, pl, rfl, hk, hke, hll, hr, hL, hnew⟩ := rep_lane hR
    have hmb : d.lanes.length ≤ massL d.lanes := by unfold massL; omega
    refine (one_lane line ws hw _ _ _ _ hn (numN_i64 line 0) hl W.heap.size qs k g vc la lc ll pt pf pl hk (by omega) (by omega) w1 hr hL k1.size _ _ rfl rfl).mono ?_
    rintro e w2 ⟨a', c', rfl, hr', hl', htw, how⟩
    have ht := takeP_lane (es := es) (d := d) hh
    refine ⟨⟨k1.twain htw (fun b h => (hL.lt b h).1) (fun b h => by cases h; exact (hr.lt g rfl).1), fun B cs hB => hB.twain htw (own_ne hL hB (by decide)) (own_ne hr hB (by decide))⟩, some ⟨g, 0, none⟩, k + 1, vc, ?_, fun ds' hd => ?_⟩
    · rw [ht]
      by_cases e : lineL wLane [numN line 0] = line
      · rw [if_pos e, beq_iff_eq.2 e]; rfl
      · rw [if_neg e, beq_eq_false_iff_ne.2 e]; rfl
    · rw [ht] at hd
      by_cases e : lineL wLane [numN line 0] = line
      · rw [if_pos e] at hd
        cases hd
        exact hnew w2 a' c' _ hr' hl' htw how
      · rw [if_neg e] at hd
        cases hd
  have hhl : headW line ≠ wLane := by rw [hh]; exact h2
  obtain ⟨lanes, t, f, l⟩ := d
  rcases List.eq_nil_or_concat lanes with rfl | ⟨dl, y, rfl⟩
  · obtain ⟨g, k, vc, la, lc, ll, qs, pt, pf, pl, rfl, hk, hke, hll, hr, hL, hnew⟩ := rep_lane hR
    have hl0 : ll.length = 0 := hll
    obtain ⟨P, b, hP⟩ : ∃ P b, refGot line = gotV P b := by
      unfold refGot
      split
      · exact ⟨_, _, rfl⟩
      · exact ⟨_, _, rfl⟩
    refine (one_nolane line w0 ws hw h1 _ _ _ _ hn hl h2 W.heap.size qs k g vc la _ lc ll pt pf pl hk (by omega) w1 hr P b hP hl0).mono ?_
    rintro e w2 ⟨rfl, k2⟩
    exact ⟨⟨k1.trans k2, fun B cs hB => hB.kp k2⟩, none, 0, 0, by rw [takeP_nolane hhp hhl]; rfl, fun ds' hd => by rw [takeP_nolane hhp hhl] at hd; cases hd⟩
  rw [List.concat_eq_append] at *
  obtain ⟨g, k, vc, h, lc, ks, m, qs, pt, pf, pl, yx, ya, yc, rfl, hk, hkm, hr, hL, hY, hnew⟩ := rep_put hR
  have hmb := massL_last (dl := dl) (e := y)
  simp only at hma
  have hqs : qs.length ≤ 1000000 := by
    obtain ⟨ps, hps, hr2, _⟩ := rep_page hR
    have e1 := row_len hr2
    rw [hps, List.length_append, List.length_singleton] at e1
    omega
  have hks : ks.length ≤ 1000000 := by
    obtain ⟨ds2, hd2⟩ : ∃ n, n = ks.length := ⟨_, rfl⟩
    obtain ⟨_, k', _, _, _, ll, _, _, _, _, e1, hk', _, hll, hr', hL', _⟩ := rep_lane hR
    have e2 := row_len hL
    simp only [Value.slice.injEq] at e1
    obtain ⟨e3, e4, _⟩ := e1
    have p1 := Row.cellN (enc := Page.cells) (fun _ => rfl) hr rfl (get_last hk) (j := 0) rfl
    have hkk : k' = k := by omega
    subst hkk
    simp only [Option.some.injEq, Addr.mk.injEq] at e3
    obtain ⟨rfl, -, -⟩ := e3
    have p2 := Row.cellN (enc := Page.cells) (fun _ => rfl) hr' rfl (get_last hk') (j := 0) rfl
    rw [p1] at p2
    simp only [Option.some.injEq, Value.slice.injEq] at p2
    obtain ⟨_, p3, _⟩ := p2
    rw [List.length_append, List.length_singleton] at hll
    omega
  have ht := takeP_put (es := es) (dl := dl) (e := y) (t := t) (f := f) (l := l) hhp hhl
  have hG := refGot_put line
  cases hp : putP line with
  | none =>
    rw [hp] at ht hG
    simp only at ht hG
    refine (one_noput line w0 ws hw h1 _ _ _ _ hn hl h2 W.heap.size qs k g vc _ _ lc _ pt pf pl hk (by omega) w1 hr _ false hG (by omega) rfl).mono ?_
    rintro e w2 ⟨rfl, k2⟩
    exact ⟨⟨k1.trans k2, fun B cs hB => hB.kp k2⟩, none, 0, 0, by rw [ht]; rfl, fun ds' hd => by rw [ht] at hd; cases hd⟩
  | some q =>
    rw [hp] at ht hG
    simp only at ht hG
    obtain ⟨qk, qn, ql, qy, qh⟩ := q
    refine (one_put line w0 ws hw h1 _ _ _ _ hn hl h2 qk qn ql qy qh hG W.heap.size qs k g vc h lc ks m pt pf pl yx ya yc y.puts hk hkm (by omega) (by omega) (by omega) w1 hr hL hY k1.size).mono ?_
    rintro e2 w2 ⟨a', c', rfl, hl', hy', htw, how⟩
    refine ⟨⟨k1.twain htw (fun b h => (hY.lt b h).1) (fun b h' => by cases h'; exact (hL.lt h rfl).1), fun B cs hB => hB.twain htw (own_ne hY hB (by decide)) (own_ne hL hB (by decide))⟩, some ⟨g, 0, none⟩, k + 1, vc, by rw [ht]; rfl, fun ds' hd => ?_⟩
    rw [ht] at hd
    cases hd
    exact hnew w2 a' c' _ hl' hy' htw how
end Go.Proofs.YteadhacoglcbfaaDoor
