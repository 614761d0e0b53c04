/- Part 10 of the proof: A galley's pages while they are read: a thing. A galley's lines: a thing where there is no lane; what Read's closure makes of take. A galley: the texts that are always read. Pages while they are read: what stands in which block, told by data. Pages while they are read: a page, a lane, a thing more. A galley's Read: a last line that has no end. -/
import Derived.Test.YteadhacoglcbfaaDoorZ9
namespace Go.Proofs.YteadhacoglcbfaaDoor

open Go.ChangeShapes Go.WideShapes Go.ChangeAt Go.RowKit Go.Shelf

theorem Row.shape1 {α : Type} {w : World} {base n : Nat} {e : TypeId} {enc : α → List Value} {l : List α} {g m c : Nat} (h : Row w base e n enc (.slice (some ⟨g, 0, none⟩) m c) l) (hl : 0 < l.length) : m = l.length ∧ m ≤ c ∧ c ≤ maxLen := by
  obtain ⟨g2', c', e, _, _, h1, h2⟩ := h.shape hl
  simp only [Value.slice.injEq] at e
  obtain ⟨_, e1, e2⟩ := e
  subst e2
  exact ⟨e1, by rw [e1]; exact h1, h2⟩
set_option maxRecDepth 100000 in
set_option maxHeartbeats 8000000 in
theorem take_put (s : List UInt8) (wd : List UInt8) (ns : List Int) (q : Put) (base : Nat) (qs : List Page) (k g vc : Nat) (h lc : Nat) (ks : List Lane) (m : Nat) (pt pf pl : Int) (yx : Int) (ya : Option Addr) (yc : Nat) (yl : List Put)
    (hp : parseP s = some (wd, ns)) (ho : putOf wd ns = some q) (hw1 : wd ≠ wPage) (hw2 : wd ≠ wLane) (hs : s.length ≤ 10000) (hk : qs.length = k) (hm : ks.length = m) (hyl : yl.length ≤ 1000000) (w : World) (he : Env w)
    (hr : Row w base 49 4 Page.cells (.slice (some ⟨g, 0, none⟩) (k + 1) vc) (qs ++ [⟨⟨some ⟨h, 0, none⟩, m + 1, lc, ks ++ [⟨yx, ⟨ya, yl.length, yc, yl⟩⟩]⟩, pt, pf, pl⟩]))
    (hl : Row w base 46 2 Lane.cells (.slice (some ⟨h, 0, none⟩) (m + 1) lc) (ks ++ [⟨yx, ⟨ya, yl.length, yc, yl⟩⟩])) (hy : Row w base 33 5 Put.cells (.slice ya yl.length yc) yl) (hb : base ≤ w.heap.size) :
    Calls Tryd.prog 21 #[.slice (some ⟨g, 0, none⟩) (k + 1) vc, sv s] w fun e w' => ∃ a' c', e = .returned (.slice (some ⟨g, 0, none⟩) (k + 1) vc) ∧ Row w' base 46 2 Lane.cells (.slice (some ⟨h, 0, none⟩) (m + 1) lc) (ks ++ [⟨yx, ⟨a', yl.length + 1, c', yl ++ [q]⟩⟩]) ∧
      Row w' base 33 5 Put.cells (.slice a' (yl.length + 1) c') (yl ++ [q]) ∧ Twain w w' (Value.slice ya yl.length yc).ownBlock (some h) ∧ ((Value.slice a' (yl.length + 1) c').ownBlock = (Value.slice ya yl.length yc).ownBlock ∨ ∃ b, (Value.slice a' (yl.length + 1) c').ownBlock = some b ∧ w.heap.size ≤ b) := by
  obtain ⟨qk, qn, ql, qy, qh⟩ := q
  have CPA := Lib.hid (parse_any s hs w he)
  have HL := Lib.hid hl
  have HY := Lib.hid hy
  have hgg := (hr.lt g rfl).2
  have hhh := (hl.lt h rfl).2
  obtain ⟨-, hvc1, hvm⟩ := hr.shape1 (by rw [List.length_append, List.length_singleton]; omega)
  obtain ⟨-, hlc1, hlm⟩ := hl.shape1 (by rw [List.length_append, List.length_singleton]; omega)
  unfold maxLen at hvm hlm
  have HYG : Hid (∀ b, (Value.slice ya yl.length yc).ownBlock = some b → b < w.heap.size ∧ b ≠ h) := Lib.hid fun b hb2 => ⟨(hy.lt b hb2).2, fun e => by
    obtain ⟨c1, h1⟩ := hy.type hb2
    obtain ⟨c2, h2⟩ := hl.type (g := h) rfl
    rw [e, h2] at h1
    cases h1⟩
  have P0 := Row.cellN (enc := Page.cells) (fun _ => rfl) hr rfl (get_last hk) (j := 0) rfl
  have L1 := Row.cellN (enc := Lane.cells) (fun _ => rfl) hl rfl (get_last hm) (j := 1) rfl
  simp only [Nat.add_zero] at P0
  replace L1 : w.cell? ⟨h, m * 2 + 1, none⟩ = some (.slice ya yl.length yc) := L1
  have n1 : (wd == [112, 97, 103, 101]) = false := beq_eq_false_iff_ne.2 hw1
  have n2 : (wd == [108, 97, 110, 101]) = false := beq_eq_false_iff_ne.2 hw2
  clear he hr hl hy hw1 hw2
  go_enter Tryd.func21, Tryd.ntmps21
  go_wp2_with fail
  refine CPA.out.mono ?_
  rintro e w1 ⟨k1, ⟨wd', ns', na, nc, hp2, rfl, hsl, hn⟩ | ⟨hp2, _⟩⟩
  rotate_left
  · rw [hp] at hp2; cases hp2
  rw [hp] at hp2
  simp only [Option.some.injEq, Prod.mk.injEq] at hp2
  obtain ⟨rfl, rfl⟩ := hp2
  have HSL := Lib.hid hsl
  have hX0 := k1.size
  have p1 := (k1.cell (p := ⟨g, k * 4, none⟩) hgg).trans P0
  have l1 := (k1.cell (p := ⟨h, m * 2 + 1, none⟩) hhh).trans L1
  have hgg1 := Nat.lt_of_lt_of_le hgg k1.size
  have hhh1 := Nat.lt_of_lt_of_le hhh k1.size
  clear hsl CPA P0 L1
  have j1 : decide ((k : Int) < 0) = false := decide_eq_false (by omega)
  have ek : (k : Int) < (k : Int) + 1 := by omega
  have em : (m : Int) < (m : Int) + 1 := by omega
  have j2 : decide ((m : Int) + 1 = 0) = false := decide_eq_false (by omega)
  have j3 : (((m : Int) + 1) == 0) = false := beq_eq_false_iff_ne.2 (by omega)
  go_wp2_with fail
  
  refine named_world (F := fun w2 => Blk w2 w1.heap.size [sv wd, .slice na ns.length nc] 58 ∧ Kp w1 w2) ⟨(by (repeat (first | with_reducible assumption | ((with_reducible refine Blk.newL ?_ ?_); (focus (first | (simp; done) | omega)); rfl) | with_reducible refine Blk.drew ?_ | with_reducible refine Blk.drewN ?_ _ | with_reducible refine Blk.alloc ?_ _ | ((with_reducible refine Blk.other ?_ ?_ _); rotate_left; (focus (first | with_reducible assumption | omega | (simp; done) | (simp; omega))))))), (by (repeat (first | with_reducible assumption | with_reducible exact Kp.refl _ | with_reducible refine Kp.drew ?_ | with_reducible refine Kp.drewN ?_ _ | with_reducible refine Kp.alloc ?_ _ | ((with_reducible refine Kp.setCell ?_ ?_ _); rotate_left; (focus (first | omega | (simp; done) | (simp; omega)))) | with_reducible refine Kp.trans ?_ (by assumption))))⟩ ?_; rintro w2 ⟨bx, kw2⟩; have bx_0 := bx.cell 0 rfl; have bx_1 := bx.cell 1 rfl; have bx_ne := bx.lt; have bx_n1 := Nat.lt_add_one_of_lt bx_ne; have bx_n2 := Nat.lt_add_one_of_lt bx_n1
  have kww : Kp w w2 := k1.trans kw2
  have hX2 := bx.lt
  have hhh2 := Nat.lt_of_lt_of_le hhh kww.size
  have l2 := (kw2.cell (p := ⟨h, m * 2 + 1, none⟩) hhh1).trans l1
  have x0 := bx.cell 0 rfl
  have x1 := bx.cell 1 rfl
  (refine wp_region_held_drew (S := (fun w' => w2.heap.size ≤ w'.heap.size ∧ w'.cell? ⟨w1.heap.size, 0, none⟩ = some (sv wd) ∧ w'.cell? ⟨w1.heap.size, 1, none⟩ = some (.slice na ns.length nc))) (by kernel_rfl) ?_ (fun hHd => ?_); (focus ((try dsimp only); exact ⟨Nat.le_refl _, x0, x1⟩)))
  (refine takeH (i := 0) (oi := ?o280) (v := ?v280) ?h280 (by kernel_rfl) ?q280 (Or.inl ⟨?w280, ?y280⟩) (by assumption) ?r280; (case h280 => ((simp only [g1, g3]); rfl)); (case q280 => exact fun _ _ _ h => h); (case w280 => rfl); (case y280 => (intro w' hSw; (try dsimp only at hSw); go_simp; (try with_reducible rfl))); (try simp only [Act.put, s1, s2, s3]))
  (refine takeH (i := 1) (oi := ?o281) (v := ?v281) ?h281 (by kernel_rfl) ?q281 (Or.inl ⟨?w281, ?y281⟩) (by assumption) ?r281; (case h281 => ((simp only [g1, g2, g3]); rfl)); (case q281 => exact fun _ _ _ h => h); (case w281 => rfl); (case y281 => (intro w' hSw; (try dsimp only at hSw); go_simp; (try with_reducible rfl))); (try simp only [Act.put, s1, s2, s3]))
  (refine takeH (i := 2) (oi := ?o282) (v := ?v282) ?h282 (by kernel_rfl) ?q282 (Or.inl ⟨?w282, ?y282⟩) (by assumption) ?r282; (case h282 => ((simp only [g1, g2, g3]); rfl)); (case q282 => exact fun _ _ _ h => h); (case w282 => rfl); (case y282 => (intro w' hSw; (try dsimp only at hSw); go_simp; (try with_reducible rfl))); (try simp only [Act.put, s1, s2, s3]))
  (refine takeH (i := 3) (oi := ?o283) (v := ?v283) ?h283 (by kernel_rfl) ?q283 (Or.inl ⟨?w283, ?y283⟩) (by assumption) ?r283; (case h283 => ((simp only [g1, g2, g3]); rfl)); (case q283 => exact fun _ _ _ h => h); (case w283 => rfl); (case y283 => (intro w' hSw; (try dsimp only at hSw); go_simp; (try with_reducible rfl))); (try simp only [Act.put, s1, s2, s3]))
  (refine takeH (i := 5) (oi := ?o284) (v := ?v284) ?h284 (by kernel_rfl) ?q284 (Or.inl ⟨?w284, ?y284⟩) (by assumption) ?r284; (case h284 => ((simp only [g1, g2, g3]); rfl)); (case q284 => exact fun _ _ _ h => h); (case w284 => rfl); (case y284 => (intro w' hSw; (try dsimp only at hSw); go_simp; (try with_reducible rfl))); (try simp only [Act.put, s1, s2, s3]))
  (refine wpAnyH_ready (rs := [4, 6]) (by kernel_rfl) (by simp) ?_; refine (AllReadyH.cons (o := ?o285) ?h285 (fun K hK => ?s285) (AllReadyH.cons (o := ?o286) ?h286 (fun K hK => ?s286) AllReadyH.nil)); (case h285 => (first | ((simp only [g1, g2, g3]); rfl) | rfl)); (case h286 => (first | ((simp only [g1, g2, g3]); rfl) | rfl)))
  (go_simp; (try dsimp only); refine hK.out _ _ ?_ (fun hHd => ?_); (focus ((try dsimp only); exact hHd)); clear hK K; (try simp only [Act.put, s1, s2, s3]))
  (refine wpAnyH_ready (rs := [6]) (by kernel_rfl) (by simp) ?_; refine AllReadyH.cons (o := ?o287) ?h287 (fun K hK => ?s287) AllReadyH.nil; (case h287 => (first | ((simp only [g1, g2, g3]); rfl) | rfl)); (go_simp; go_at_call 26; refine (putc_any wd ns na nc _ (HSL.out.kp (kw2.trans (show Kp w2 _ from (by (repeat (first | with_reducible assumption | with_reducible exact Kp.refl _ | with_reducible refine Kp.drew ?_ | with_reducible refine Kp.drewN ?_ _ | with_reducible refine Kp.alloc ?_ _ | ((with_reducible refine Kp.setCell ?_ ?_ _); rotate_left; (focus (first | omega | (simp; done) | (simp; omega)))) | with_reducible refine Kp.trans ?_ (by assumption)))))))).mono ?_; rintro e w3 ⟨kk, hpe⟩; obtain ⟨q', ho', rfl⟩ : ∃ q', putOf wd ns = some q' ∧ e = .returned (.agg q'.cells.toArray) := hpe.elim id (fun h' => by rw [ho] at h'; exact absurd h'.1 (by simp)); have hqq := Option.some.inj (ho.symm.trans ho'); subst hqq; (try dsimp only); simp only [Put.cells]; have kw3 : Kp w2 w3 := (show Kp w2 _ from (by (repeat (first | with_reducible assumption | with_reducible exact Kp.refl _ | with_reducible refine Kp.drew ?_ | with_reducible refine Kp.drewN ?_ _ | with_reducible refine Kp.alloc ?_ _ | ((with_reducible refine Kp.setCell ?_ ?_ _); rotate_left; (focus (first | omega | (simp; done) | (simp; omega)))) | with_reducible refine Kp.trans ?_ (by assumption))))).trans kk; have kww3 : Kp w w3 := kww.trans kw3; have p3 := (kw3.cell (p := ⟨h, m * 2 + 1, none⟩) hhh2).trans l2; have hhh3 := Nat.lt_of_lt_of_le hhh2 kw3.size); refine hK.out _ _ ?_ (fun hHd => ?_); (focus ((try dsimp only); exact ⟨kw3.size, (kw3.cell (p := ⟨w1.heap.size, 0, none⟩) hX2).trans x0, (kw3.cell (p := ⟨w1.heap.size, 1, none⟩) hX2).trans x1⟩)); clear hK K; (try simp only [Act.put]))
  (refine wpAnyH_ready (rs := [7]) (by kernel_rfl) (by simp) ?_; refine AllReadyH.cons (o := ?o289) ?h289 (fun K hK => ?s289) AllReadyH.nil; (case h289 => (first | ((simp only [g1, g2, g3]); rfl) | rfl)); go_simp; (try dsimp only); refine hK.out _ _ ?_ (fun hHd => ?_); (focus ((try dsimp only); exact ⟨(show Kp w2 _ from (by (repeat (first | with_reducible assumption | with_reducible exact Kp.refl _ | with_reducible refine Kp.drew ?_ | with_reducible refine Kp.drewN ?_ _ | with_reducible refine Kp.alloc ?_ _ | ((with_reducible refine Kp.setCell ?_ ?_ _); rotate_left; (focus (first | omega | (simp; done) | (simp; omega)))) | with_reducible refine Kp.trans ?_ (by assumption))))).size, ((show Kp w2 _ from (by (repeat (first | with_reducible assumption | with_reducible exact Kp.refl _ | with_reducible refine Kp.drew ?_ | with_reducible refine Kp.drewN ?_ _ | with_reducible refine Kp.alloc ?_ _ | ((with_reducible refine Kp.setCell ?_ ?_ _); rotate_left; (focus (first | omega | (simp; done) | (simp; omega)))) | with_reducible refine Kp.trans ?_ (by assumption))))).cell (p := ⟨w1.heap.size, 0, none⟩) hX2).trans x0, ((show Kp w2 _ from (by (repeat (first | with_reducible assumption | with_reducible exact Kp.refl _ | with_reducible refine Kp.drew ?_ | with_reducible refine Kp.drewN ?_ _ | with_reducible refine Kp.alloc ?_ _ | ((with_reducible refine Kp.setCell ?_ ?_ _); rotate_left; (focus (first | omega | (simp; done) | (simp; omega)))) | with_reducible refine Kp.trans ?_ (by assumption))))).cell (p := ⟨w1.heap.size, 1, none⟩) hX2).trans x1⟩)); clear hK K; (try simp only [Act.put, s1, s2, s3]))
  (refine wpAnyH_ready (rs := [8]) (by kernel_rfl) (by simp) ?_; refine AllReadyH.cons (o := ?o290) ?h290 (fun K hK => ?s290) AllReadyH.nil; (case h290 => (first | ((simp only [g1, g2, g3]); rfl) | rfl)); (refine rowAppendX (.tmp 87) (.tmp 90) 44 ?ho291 Tryd.underlying44 infoPt rfl (by decide) (HY.out.kp (show Kp w _ from (by (repeat (first | with_reducible assumption | with_reducible exact Kp.refl _ | with_reducible refine Kp.drew ?_ | with_reducible refine Kp.drewN ?_ _ | with_reducible refine Kp.alloc ?_ _ | ((with_reducible refine Kp.setCell ?_ ?_ _); rotate_left; (focus (first | omega | (simp; done) | (simp; omega)))) | with_reducible refine Kp.trans ?_ (by assumption)))))) ?hs291 (y := (⟨qk, qn, ql, qy, qh⟩ : Put)) rfl (putOne _) (show Blk _ w3.heap.size (Put.cells (⟨qk, qn, ql, qy, qh⟩ : Put)) 33 from (by (repeat (first | with_reducible assumption | ((with_reducible refine Blk.newL ?_ ?_); (focus (first | (simp; done) | omega)); rfl) | with_reducible refine Blk.drew ?_ | with_reducible refine Blk.drewN ?_ _ | with_reducible refine Blk.alloc ?_ _ | ((with_reducible refine Blk.other ?_ ?_ _); rotate_left; (focus (first | with_reducible assumption | omega | (simp; done) | (simp; omega)))))))) ?hx291 ?hl291 ?hb291 ?hz291 ?_; (case ho291 => rfl); (case hs291 => rfl); (case hx291 => rfl); (case hl291 => unfold maxLen; omega); (case hb291 => omega); (case hz291 => exact Nat.le_trans hb (show Kp w _ from (by (repeat (first | with_reducible assumption | with_reducible exact Kp.refl _ | with_reducible refine Kp.drew ?_ | with_reducible refine Kp.drewN ?_ _ | with_reducible refine Kp.alloc ?_ _ | ((with_reducible refine Kp.setCell ?_ ?_ _); rotate_left; (focus (first | omega | (simp; done) | (simp; omega)))) | with_reducible refine Kp.trans ?_ (by assumption))))).size); intro v' w4 hr' hg hloc; obtain ⟨a5, c5, rfl, _⟩ := hr'.sl (fun _ => rfl); have hgs := hg.size; have hkeep : ∀ b o u, w.heap.size ≤ b → b < w2.heap.size → w2.cell? ⟨b, o, none⟩ = some u → w4.cell? ⟨b, o, none⟩ = some u := fun b o u hb1 hb2 hu => (cell_heap (hg.block b (Nat.lt_of_lt_of_le hb2 (show Kp w2 _ from (by (repeat (first | with_reducible assumption | with_reducible exact Kp.refl _ | with_reducible refine Kp.drew ?_ | with_reducible refine Kp.drewN ?_ _ | with_reducible refine Kp.alloc ?_ _ | ((with_reducible refine Kp.setCell ?_ ?_ _); rotate_left; (focus (first | omega | (simp; done) | (simp; omega)))) | with_reducible refine Kp.trans ?_ (by assumption))))).size) (fun e' => by have := (HYG.out b e'.symm).1; omega)) o).trans (((show Kp w2 _ from (by (repeat (first | with_reducible assumption | with_reducible exact Kp.refl _ | with_reducible refine Kp.drew ?_ | with_reducible refine Kp.drewN ?_ _ | with_reducible refine Kp.alloc ?_ _ | ((with_reducible refine Kp.setCell ?_ ?_ _); rotate_left; (focus (first | omega | (simp; done) | (simp; omega)))) | with_reducible refine Kp.trans ?_ (by assumption))))).cell (p := ⟨b, o, none⟩) hb2).trans hu); have hpr := HL.out.stay (w' := w4) (fun b hb1 => by cases hb1; exact (hg.block h (Nat.lt_of_lt_of_le hhh (show Kp w _ from (by (repeat (first | with_reducible assumption | with_reducible exact Kp.refl _ | with_reducible refine Kp.drew ?_ | with_reducible refine Kp.drewN ?_ _ | with_reducible refine Kp.alloc ?_ _ | ((with_reducible refine Kp.setCell ?_ ?_ _); rotate_left; (focus (first | omega | (simp; done) | (simp; omega)))) | with_reducible refine Kp.trans ?_ (by assumption))))).size) (fun e' => (HYG.out h e'.symm).2 rfl)).trans (Below.block (show Kp w _ from (by (repeat (first | with_reducible assumption | with_reducible exact Kp.refl _ | with_reducible refine Kp.drew ?_ | with_reducible refine Kp.drewN ?_ _ | with_reducible refine Kp.alloc ?_ _ | ((with_reducible refine Kp.setCell ?_ ?_ _); rotate_left; (focus (first | omega | (simp; done) | (simp; omega)))) | with_reducible refine Kp.trans ?_ (by assumption))))) h hhh)); have p4 := Row.cellN (enc := Lane.cells) (fun _ => rfl) hpr rfl (get_last hm) (j := 1) rfl; have f4 := Row.freeN hpr rfl (m * 2 + 1); have htw := twain_store (show Kp w _ from (by (repeat (first | with_reducible assumption | with_reducible exact Kp.refl _ | with_reducible refine Kp.drew ?_ | with_reducible refine Kp.drewN ?_ _ | with_reducible refine Kp.alloc ?_ _ | ((with_reducible refine Kp.setCell ?_ ?_ _); rotate_left; (focus (first | omega | (simp; done) | (simp; omega)))) | with_reducible refine Kp.trans ?_ (by assumption))))) hg h (m * 2 + 1) (.slice a5 (yl ++ [(⟨qk, qn, ql, qy, qh⟩ : Put)]).length c5); have hlw : (Value.slice a5 (yl ++ [(⟨qk, qn, ql, qy, qh⟩ : Put)]).length c5).ownBlock = (Value.slice ya yl.length yc).ownBlock ∨ ∃ b, (Value.slice a5 (yl ++ [(⟨qk, qn, ql, qy, qh⟩ : Put)]).length c5).ownBlock = some b ∧ w.heap.size ≤ b := hloc.imp id (fun h => ⟨_, h, (show Kp w _ from (by (repeat (first | with_reducible assumption | with_reducible exact Kp.refl _ | with_reducible refine Kp.drew ?_ | with_reducible refine Kp.drewN ?_ _ | with_reducible refine Kp.alloc ?_ _ | ((with_reducible refine Kp.setCell ?_ ?_ _); rotate_left; (focus (first | omega | (simp; done) | (simp; omega)))) | with_reducible refine Kp.trans ?_ (by assumption))))).size⟩); have hS4 : w2.heap.size ≤ w4.heap.size := Nat.le_trans (show Kp w2 _ from (by (repeat (first | with_reducible assumption | with_reducible exact Kp.refl _ | with_reducible refine Kp.drew ?_ | with_reducible refine Kp.drewN ?_ _ | with_reducible refine Kp.alloc ?_ _ | ((with_reducible refine Kp.setCell ?_ ?_ _); rotate_left; (focus (first | omega | (simp; done) | (simp; omega)))) | with_reducible refine Kp.trans ?_ (by assumption))))).size hgs; clear hgs); refine hK.out _ _ ?_ (fun hHd => ?_); (focus ((try dsimp only); exact ⟨hS4, hkeep _ _ _ hX0 hX2 x0, hkeep _ _ _ hX0 hX2 x1⟩)); clear hK K; (try simp only [Act.put]))
  (refine takeH (i := 9) (oi := ?o292) (v := ?v292) ?h292 (by kernel_rfl) ?q292 (Or.inl ⟨?w292, ?y292⟩) (by assumption) ?r292; (case h292 => ((simp only [g1, g2, g3]); rfl)); (case q292 => exact fun _ _ _ h => h); (case w292 => rfl); (case y292 => (intro w' hSw; (try dsimp only at hSw); go_simp; (try with_reducible rfl))); (try simp only [Act.put, s1, s2, s3]))
  (refine takeH (i := 10) (oi := ?o293) (v := ?v293) ?h293 (by kernel_rfl) ?q293 (Or.inl ⟨?w293, ?y293⟩) (by assumption) ?r293; (case h293 => ((simp only [g1, g2, g3]); rfl)); (case q293 => exact fun _ _ _ h => h); (case w293 => rfl); (case y293 => (intro w' hSw; (try dsimp only at hSw); go_simp; (try with_reducible rfl))); (try simp only [Act.put, s1, s2, s3]))
  (refine wpAnyH_ready (rs := [11]) (by kernel_rfl) (by simp) ?_; refine AllReadyH.cons (o := ?o294) ?h294 (fun K hK => ?s294) AllReadyH.nil; (case h294 => (first | ((simp only [g1, g2, g3]); rfl) | rfl)); go_simp; (try dsimp only); refine hK.out _ _ ?_ (fun hHd => ?_); (focus ((try dsimp only); exact ⟨by simpa using hS4, (cell_heap (Below.heap_setCell _ _ _ _ (by show w1.heap.size ≠ h; omega)) _).trans (hkeep _ _ _ hX0 hX2 x0), (cell_heap (Below.heap_setCell _ _ _ _ (by show w1.heap.size ≠ h; omega)) _).trans (hkeep _ _ _ hX0 hX2 x1)⟩)); clear hK K; (try simp only [Act.put, s1, s2, s3]))
  refine wpAnyH_done (by kernel_rfl) ?_ _
  rotate_left
  ((go_simp; go_at_call 26; refine (putc_any wd ns na nc _ (HSL.out.kp (kw2.trans (show Kp w2 _ from (by (repeat (first | with_reducible assumption | with_reducible exact Kp.refl _ | with_reducible refine Kp.drew ?_ | with_reducible refine Kp.drewN ?_ _ | with_reducible refine Kp.alloc ?_ _ | ((with_reducible refine Kp.setCell ?_ ?_ _); rotate_left; (focus (first | omega | (simp; done) | (simp; omega)))) | with_reducible refine Kp.trans ?_ (by assumption)))))))).mono ?_; rintro e w3 ⟨kk, hpe⟩; obtain ⟨q', ho', rfl⟩ : ∃ q', putOf wd ns = some q' ∧ e = .returned (.agg q'.cells.toArray) := hpe.elim id (fun h' => by rw [ho] at h'; exact absurd h'.1 (by simp)); have hqq := Option.some.inj (ho.symm.trans ho'); subst hqq; (try dsimp only); simp only [Put.cells]; have kw3 : Kp w2 w3 := (show Kp w2 _ from (by (repeat (first | with_reducible assumption | with_reducible exact Kp.refl _ | with_reducible refine Kp.drew ?_ | with_reducible refine Kp.drewN ?_ _ | with_reducible refine Kp.alloc ?_ _ | ((with_reducible refine Kp.setCell ?_ ?_ _); rotate_left; (focus (first | omega | (simp; done) | (simp; omega)))) | with_reducible refine Kp.trans ?_ (by assumption))))).trans kk; have kww3 : Kp w w3 := kww.trans kw3; have p3 := (kw3.cell (p := ⟨h, m * 2 + 1, none⟩) hhh2).trans l2; have hhh3 := Nat.lt_of_lt_of_le hhh2 kw3.size); refine hK.out _ _ ?_ (fun hHd => ?_); (focus ((try dsimp only); exact ⟨kw3.size, (kw3.cell (p := ⟨w1.heap.size, 0, none⟩) hX2).trans x0, (kw3.cell (p := ⟨w1.heap.size, 1, none⟩) hX2).trans x1⟩)); clear hK K; (try simp only [Act.put]))
  (refine wpAnyH_ready (rs := [4, 7]) (by kernel_rfl) (by simp) ?_; refine (AllReadyH.cons (o := ?o296) ?h296 (fun K hK => ?s296) (AllReadyH.cons (o := ?o297) ?h297 (fun K hK => ?s297) AllReadyH.nil)); (case h296 => (first | ((simp only [g1, g2, g3]); rfl) | rfl)); (case h297 => (first | ((simp only [g1, g2, g3]); rfl) | rfl)))
  (go_simp; (try dsimp only); refine hK.out _ _ ?_ (fun hHd => ?_); (focus ((try dsimp only); exact hHd)); clear hK K; (try simp only [Act.put, s1, s2, s3]))
  (refine wpAnyH_ready (rs := [7]) (by kernel_rfl) (by simp) ?_; refine AllReadyH.cons (o := ?o298) ?h298 (fun K hK => ?s298) AllReadyH.nil; (case h298 => (first | ((simp only [g1, g2, g3]); rfl) | rfl)); go_simp; (try dsimp only); refine hK.out _ _ ?_ (fun hHd => ?_); (focus ((try dsimp only); exact ⟨(show Kp w2 _ from (by (repeat (first | with_reducible assumption | with_reducible exact Kp.refl _ | with_reducible refine Kp.drew ?_ | with_reducible refine Kp.drewN ?_ _ | with_reducible refine Kp.alloc ?_ _ | ((with_reducible refine Kp.setCell ?_ ?_ _); rotate_left; (focus (first | omega | (simp; done) | (simp; omega)))) | with_reducible refine Kp.trans ?_ (by assumption))))).size, ((show Kp w2 _ from (by (repeat (first | with_reducible assumption | with_reducible exact Kp.refl _ | with_reducible refine Kp.drew ?_ | with_reducible refine Kp.drewN ?_ _ | with_reducible refine Kp.alloc ?_ _ | ((with_reducible refine Kp.setCell ?_ ?_ _); rotate_left; (focus (first | omega | (simp; done) | (simp; omega)))) | with_reducible refine Kp.trans ?_ (by assumption))))).cell (p := ⟨w1.heap.size, 0, none⟩) hX2).trans x0, ((show Kp w2 _ from (by (repeat (first | with_reducible assumption | with_reducible exact Kp.refl _ | with_reducible refine Kp.drew ?_ | with_reducible refine Kp.drewN ?_ _ | with_reducible refine Kp.alloc ?_ _ | ((with_reducible refine Kp.setCell ?_ ?_ _); rotate_left; (focus (first | omega | (simp; done) | (simp; omega)))) | with_reducible refine Kp.trans ?_ (by assumption))))).cell (p := ⟨w1.heap.size, 1, none⟩) hX2).trans x1⟩)); clear hK K; (try simp only [Act.put, s1, s2, s3]))
  (refine wpAnyH_ready (rs := [8]) (by kernel_rfl) (by simp) ?_; refine AllReadyH.cons (o := ?o299) ?h299 (fun K hK => ?s299) AllReadyH.nil; (case h299 => (first | ((simp only [g1, g2, g3]); rfl) | rfl)); (refine rowAppendX (.tmp 87) (.tmp 90) 44 ?ho300 Tryd.underlying44 infoPt rfl (by decide) (HY.out.kp (show Kp w _ from (by (repeat (first | with_reducible assumption | with_reducible exact Kp.refl _ | with_reducible refine Kp.drew ?_ | with_reducible refine Kp.drewN ?_ _ | with_reducible refine Kp.alloc ?_ _ | ((with_reducible refine Kp.setCell ?_ ?_ _); rotate_left; (focus (first | omega | (simp; done) | (simp; omega)))) | with_reducible refine Kp.trans ?_ (by assumption)))))) ?hs300 (y := (⟨qk, qn, ql, qy, qh⟩ : Put)) rfl (putOne _) (show Blk _ w3.heap.size (Put.cells (⟨qk, qn, ql, qy, qh⟩ : Put)) 33 from (by (repeat (first | with_reducible assumption | ((with_reducible refine Blk.newL ?_ ?_); (focus (first | (simp; done) | omega)); rfl) | with_reducible refine Blk.drew ?_ | with_reducible refine Blk.drewN ?_ _ | with_reducible refine Blk.alloc ?_ _ | ((with_reducible refine Blk.other ?_ ?_ _); rotate_left; (focus (first | with_reducible assumption | omega | (simp; done) | (simp; omega)))))))) ?hx300 ?hl300 ?hb300 ?hz300 ?_; (case ho300 => rfl); (case hs300 => rfl); (case hx300 => rfl); (case hl300 => unfold maxLen; omega); (case hb300 => omega); (case hz300 => exact Nat.le_trans hb (show Kp w _ from (by (repeat (first | with_reducible assumption | with_reducible exact Kp.refl _ | with_reducible refine Kp.drew ?_ | with_reducible refine Kp.drewN ?_ _ | with_reducible refine Kp.alloc ?_ _ | ((with_reducible refine Kp.setCell ?_ ?_ _); rotate_left; (focus (first | omega | (simp; done) | (simp; omega)))) | with_reducible refine Kp.trans ?_ (by assumption))))).size); intro v' w4 hr' hg hloc; obtain ⟨a5, c5, rfl, _⟩ := hr'.sl (fun _ => rfl); have hgs := hg.size; have hkeep : ∀ b o u, w.heap.size ≤ b → b < w2.heap.size → w2.cell? ⟨b, o, none⟩ = some u → w4.cell? ⟨b, o, none⟩ = some u := fun b o u hb1 hb2 hu => (cell_heap (hg.block b (Nat.lt_of_lt_of_le hb2 (show Kp w2 _ from (by (repeat (first | with_reducible assumption | with_reducible exact Kp.refl _ | with_reducible refine Kp.drew ?_ | with_reducible refine Kp.drewN ?_ _ | with_reducible refine Kp.alloc ?_ _ | ((with_reducible refine Kp.setCell ?_ ?_ _); rotate_left; (focus (first | omega | (simp; done) | (simp; omega)))) | with_reducible refine Kp.trans ?_ (by assumption))))).size) (fun e' => by have := (HYG.out b e'.symm).1; omega)) o).trans (((show Kp w2 _ from (by (repeat (first | with_reducible assumption | with_reducible exact Kp.refl _ | with_reducible refine Kp.drew ?_ | with_reducible refine Kp.drewN ?_ _ | with_reducible refine Kp.alloc ?_ _ | ((with_reducible refine Kp.setCell ?_ ?_ _); rotate_left; (focus (first | omega | (simp; done) | (simp; omega)))) | with_reducible refine Kp.trans ?_ (by assumption))))).cell (p := ⟨b, o, none⟩) hb2).trans hu); have hpr := HL.out.stay (w' := w4) (fun b hb1 => by cases hb1; exact (hg.block h (Nat.lt_of_lt_of_le hhh (show Kp w _ from (by (repeat (first | with_reducible assumption | with_reducible exact Kp.refl _ | with_reducible refine Kp.drew ?_ | with_reducible refine Kp.drewN ?_ _ | with_reducible refine Kp.alloc ?_ _ | ((with_reducible refine Kp.setCell ?_ ?_ _); rotate_left; (focus (first | omega | (simp; done) | (simp; omega)))) | with_reducible refine Kp.trans ?_ (by assumption))))).size) (fun e' => (HYG.out h e'.symm).2 rfl)).trans (Below.block (show Kp w _ from (by (repeat (first | with_reducible assumption | with_reducible exact Kp.refl _ | with_reducible refine Kp.drew ?_ | with_reducible refine Kp.drewN ?_ _ | with_reducible refine Kp.alloc ?_ _ | ((with_reducible refine Kp.setCell ?_ ?_ _); rotate_left; (focus (first | omega | (simp; done) | (simp; omega)))) | with_reducible refine Kp.trans ?_ (by assumption))))) h hhh)); have p4 := Row.cellN (enc := Lane.cells) (fun _ => rfl) hpr rfl (get_last hm) (j := 1) rfl; have f4 := Row.freeN hpr rfl (m * 2 + 1); have htw := twain_store (show Kp w _ from (by (repeat (first | with_reducible assumption | with_reducible exact Kp.refl _ | with_reducible refine Kp.drew ?_ | with_reducible refine Kp.drewN ?_ _ | with_reducible refine Kp.alloc ?_ _ | ((with_reducible refine Kp.setCell ?_ ?_ _); rotate_left; (focus (first | omega | (simp; done) | (simp; omega)))) | with_reducible refine Kp.trans ?_ (by assumption))))) hg h (m * 2 + 1) (.slice a5 (yl ++ [(⟨qk, qn, ql, qy, qh⟩ : Put)]).length c5); have hlw : (Value.slice a5 (yl ++ [(⟨qk, qn, ql, qy, qh⟩ : Put)]).length c5).ownBlock = (Value.slice ya yl.length yc).ownBlock ∨ ∃ b, (Value.slice a5 (yl ++ [(⟨qk, qn, ql, qy, qh⟩ : Put)]).length c5).ownBlock = some b ∧ w.heap.size ≤ b := hloc.imp id (fun h => ⟨_, h, (show Kp w _ from (by (repeat (first | with_reducible assumption | with_reducible exact Kp.refl _ | with_reducible refine Kp.drew ?_ | with_reducible refine Kp.drewN ?_ _ | with_reducible refine Kp.alloc ?_ _ | ((with_reducible refine Kp.setCell ?_ ?_ _); rotate_left; (focus (first | omega | (simp; done) | (simp; omega)))) | with_reducible refine Kp.trans ?_ (by assumption))))).size⟩); have hS4 : w2.heap.size ≤ w4.heap.size := Nat.le_trans (show Kp w2 _ from (by (repeat (first | with_reducible assumption | with_reducible exact Kp.refl _ | with_reducible refine Kp.drew ?_ | with_reducible refine Kp.drewN ?_ _ | with_reducible refine Kp.alloc ?_ _ | ((with_reducible refine Kp.setCell ?_ ?_ _); rotate_left; (focus (first | omega | (simp; done) | (simp; omega)))) | with_reducible refine Kp.trans ?_ (by assumption))))).size hgs; clear hgs); refine hK.out _ _ ?_ (fun hHd => ?_); (focus ((try dsimp only); exact ⟨hS4, hkeep _ _ _ hX0 hX2 x0, hkeep _ _ _ hX0 hX2 x1⟩)); clear hK K; (try simp only [Act.put]))
  (refine takeH (i := 9) (oi := ?o301) (v := ?v301) ?h301 (by kernel_rfl) ?q301 (Or.inl ⟨?w301, ?y301⟩) (by assumption) ?r301; (case h301 => ((simp only [g1, g2, g3]); rfl)); (case q301 => exact fun _ _ _ h => h); (case w301 => rfl); (case y301 => (intro w' hSw; (try dsimp only at hSw); go_simp; (try with_reducible rfl))); (try simp only [Act.put, s1, s2, s3]))
  (refine takeH (i := 10) (oi := ?o302) (v := ?v302) ?h302 (by kernel_rfl) ?q302 (Or.inl ⟨?w302, ?y302⟩) (by assumption) ?r302; (case h302 => ((simp only [g1, g2, g3]); rfl)); (case q302 => exact fun _ _ _ h => h); (case w302 => rfl); (case y302 => (intro w' hSw; (try dsimp only at hSw); go_simp; (try with_reducible rfl))); (try simp only [Act.put, s1, s2, s3]))
  (refine wpAnyH_ready (rs := [11]) (by kernel_rfl) (by simp) ?_; refine AllReadyH.cons (o := ?o303) ?h303 (fun K hK => ?s303) AllReadyH.nil; (case h303 => (first | ((simp only [g1, g2, g3]); rfl) | rfl)); go_simp; (try dsimp only); refine hK.out _ _ ?_ (fun hHd => ?_); (focus ((try dsimp only); exact ⟨by simpa using hS4, (cell_heap (Below.heap_setCell _ _ _ _ (by show w1.heap.size ≠ h; omega)) _).trans (hkeep _ _ _ hX0 hX2 x0), (cell_heap (Below.heap_setCell _ _ _ _ (by show w1.heap.size ≠ h; omega)) _).trans (hkeep _ _ _ hX0 hX2 x1)⟩)); clear hK K; (try simp only [Act.put, s1, s2, s3]))
  refine wpAnyH_done (by kernel_rfl) ?_ _
  rotate_left
  (go_simp; (try dsimp only); refine hK.out _ _ ?_ (fun hHd => ?_); (focus ((try dsimp only); exact ⟨(show Kp w2 _ from (by (repeat (first | with_reducible assumption | with_reducible exact Kp.refl _ | with_reducible refine Kp.drew ?_ | with_reducible refine Kp.drewN ?_ _ | with_reducible refine Kp.alloc ?_ _ | ((with_reducible refine Kp.setCell ?_ ?_ _); rotate_left; (focus (first | omega | (simp; done) | (simp; omega)))) | with_reducible refine Kp.trans ?_ (by assumption))))).size, ((show Kp w2 _ from (by (repeat (first | with_reducible assumption | with_reducible exact Kp.refl _ | with_reducible refine Kp.drew ?_ | with_reducible refine Kp.drewN ?_ _ | with_reducible refine Kp.alloc ?_ _ | ((with_reducible refine Kp.setCell ?_ ?_ _); rotate_left; (focus (first | omega | (simp; done) | (simp; omega)))) | with_reducible refine Kp.trans ?_ (by assumption))))).cell (p := ⟨w1.heap.size, 0, none⟩) hX2).trans x0, ((show Kp w2 _ from (by (repeat (first | with_reducible assumption | with_reducible exact Kp.refl _ | with_reducible refine Kp.drew ?_ | with_reducible refine Kp.drewN ?_ _ | with_reducible refine Kp.alloc ?_ _ | ((with_reducible refine Kp.setCell ?_ ?_ _); rotate_left; (focus (first | omega | (simp; done) | (simp; omega)))) | with_reducible refine Kp.trans ?_ (by assumption))))).cell (p := ⟨w1.heap.size, 1, none⟩) hX2).trans x1⟩)); clear hK K; (try simp only [Act.put, s1, s2, s3]))
  (refine wpAnyH_ready (rs := [4]) (by kernel_rfl) (by simp) ?_; refine AllReadyH.cons (o := ?o304) ?h304 (fun K hK => ?s304) AllReadyH.nil; (case h304 => (first | ((simp only [g1, g2, g3]); rfl) | rfl)); go_simp; (try dsimp only); refine hK.out _ _ ?_ (fun hHd => ?_); (focus ((try dsimp only); exact hHd)); clear hK K; (try simp only [Act.put, s1, s2, s3]))
  (refine wpAnyH_ready (rs := [8]) (by kernel_rfl) (by simp) ?_; refine AllReadyH.cons (o := ?o305) ?h305 (fun K hK => ?s305) AllReadyH.nil; (case h305 => (first | ((simp only [g1, g2, g3]); rfl) | rfl)); (refine rowAppendX (.tmp 87) (.tmp 90) 44 ?ho306 Tryd.underlying44 infoPt rfl (by decide) (HY.out.kp (show Kp w _ from (by (repeat (first | with_reducible assumption | with_reducible exact Kp.refl _ | with_reducible refine Kp.drew ?_ | with_reducible refine Kp.drewN ?_ _ | with_reducible refine Kp.alloc ?_ _ | ((with_reducible refine Kp.setCell ?_ ?_ _); rotate_left; (focus (first | omega | (simp; done) | (simp; omega)))) | with_reducible refine Kp.trans ?_ (by assumption)))))) ?hs306 (y := (⟨qk, qn, ql, qy, qh⟩ : Put)) rfl (putOne _) (show Blk _ w3.heap.size (Put.cells (⟨qk, qn, ql, qy, qh⟩ : Put)) 33 from (by (repeat (first | with_reducible assumption | ((with_reducible refine Blk.newL ?_ ?_); (focus (first | (simp; done) | omega)); rfl) | with_reducible refine Blk.drew ?_ | with_reducible refine Blk.drewN ?_ _ | with_reducible refine Blk.alloc ?_ _ | ((with_reducible refine Blk.other ?_ ?_ _); rotate_left; (focus (first | with_reducible assumption | omega | (simp; done) | (simp; omega)))))))) ?hx306 ?hl306 ?hb306 ?hz306 ?_; (case ho306 => rfl); (case hs306 => rfl); (case hx306 => rfl); (case hl306 => unfold maxLen; omega); (case hb306 => omega); (case hz306 => exact Nat.le_trans hb (show Kp w _ from (by (repeat (first | with_reducible assumption | with_reducible exact Kp.refl _ | with_reducible refine Kp.drew ?_ | with_reducible refine Kp.drewN ?_ _ | with_reducible refine Kp.alloc ?_ _ | ((with_reducible refine Kp.setCell ?_ ?_ _); rotate_left; (focus (first | omega | (simp; done) | (simp; omega)))) | with_reducible refine Kp.trans ?_ (by assumption))))).size); intro v' w4 hr' hg hloc; obtain ⟨a5, c5, rfl, _⟩ := hr'.sl (fun _ => rfl); have hgs := hg.size; have hkeep : ∀ b o u, w.heap.size ≤ b → b < w2.heap.size → w2.cell? ⟨b, o, none⟩ = some u → w4.cell? ⟨b, o, none⟩ = some u := fun b o u hb1 hb2 hu => (cell_heap (hg.block b (Nat.lt_of_lt_of_le hb2 (show Kp w2 _ from (by (repeat (first | with_reducible assumption | with_reducible exact Kp.refl _ | with_reducible refine Kp.drew ?_ | with_reducible refine Kp.drewN ?_ _ | with_reducible refine Kp.alloc ?_ _ | ((with_reducible refine Kp.setCell ?_ ?_ _); rotate_left; (focus (first | omega | (simp; done) | (simp; omega)))) | with_reducible refine Kp.trans ?_ (by assumption))))).size) (fun e' => by have := (HYG.out b e'.symm).1; omega)) o).trans (((show Kp w2 _ from (by (repeat (first | with_reducible assumption | with_reducible exact Kp.refl _ | with_reducible refine Kp.drew ?_ | with_reducible refine Kp.drewN ?_ _ | with_reducible refine Kp.alloc ?_ _ | ((with_reducible refine Kp.setCell ?_ ?_ _); rotate_left; (focus (first | omega | (simp; done) | (simp; omega)))) | with_reducible refine Kp.trans ?_ (by assumption))))).cell (p := ⟨b, o, none⟩) hb2).trans hu); have hpr := HL.out.stay (w' := w4) (fun b hb1 => by cases hb1; exact (hg.block h (Nat.lt_of_lt_of_le hhh (show Kp w _ from (by (repeat (first | with_reducible assumption | with_reducible exact Kp.refl _ | with_reducible refine Kp.drew ?_ | with_reducible refine Kp.drewN ?_ _ | with_reducible refine Kp.alloc ?_ _ | ((with_reducible refine Kp.setCell ?_ ?_ _); rotate_left; (focus (first | omega | (simp; done) | (simp; omega)))) | with_reducible refine Kp.trans ?_ (by assumption))))).size) (fun e' => (HYG.out h e'.symm).2 rfl)).trans (Below.block (show Kp w _ from (by (repeat (first | with_reducible assumption | with_reducible exact Kp.refl _ | with_reducible refine Kp.drew ?_ | with_reducible refine Kp.drewN ?_ _ | with_reducible refine Kp.alloc ?_ _ | ((with_reducible refine Kp.setCell ?_ ?_ _); rotate_left; (focus (first | omega | (simp; done) | (simp; omega)))) | with_reducible refine Kp.trans ?_ (by assumption))))) h hhh)); have p4 := Row.cellN (enc := Lane.cells) (fun _ => rfl) hpr rfl (get_last hm) (j := 1) rfl; have f4 := Row.freeN hpr rfl (m * 2 + 1); have htw := twain_store (show Kp w _ from (by (repeat (first | with_reducible assumption | with_reducible exact Kp.refl _ | with_reducible refine Kp.drew ?_ | with_reducible refine Kp.drewN ?_ _ | with_reducible refine Kp.alloc ?_ _ | ((with_reducible refine Kp.setCell ?_ ?_ _); rotate_left; (focus (first | omega | (simp; done) | (simp; omega)))) | with_reducible refine Kp.trans ?_ (by assumption))))) hg h (m * 2 + 1) (.slice a5 (yl ++ [(⟨qk, qn, ql, qy, qh⟩ : Put)]).length c5); have hlw : (Value.slice a5 (yl ++ [(⟨qk, qn, ql, qy, qh⟩ : Put)]).length c5).ownBlock = (Value.slice ya yl.length yc).ownBlock ∨ ∃ b, (Value.slice a5 (yl ++ [(⟨qk, qn, ql, qy, qh⟩ : Put)]).length c5).ownBlock = some b ∧ w.heap.size ≤ b := hloc.imp id (fun h => ⟨_, h, (show Kp w _ from (by (repeat (first | with_reducible assumption | with_reducible exact Kp.refl _ | with_reducible refine Kp.drew ?_ | with_reducible refine Kp.drewN ?_ _ | with_reducible refine Kp.alloc ?_ _ | ((with_reducible refine Kp.setCell ?_ ?_ _); rotate_left; (focus (first | omega | (simp; done) | (simp; omega)))) | with_reducible refine Kp.trans ?_ (by assumption))))).size⟩); have hS4 : w2.heap.size ≤ w4.heap.size := Nat.le_trans (show Kp w2 _ from (by (repeat (first | with_reducible assumption | with_reducible exact Kp.refl _ | with_reducible refine Kp.drew ?_ | with_reducible refine Kp.drewN ?_ _ | with_reducible refine Kp.alloc ?_ _ | ((with_reducible refine Kp.setCell ?_ ?_ _); rotate_left; (focus (first | omega | (simp; done) | (simp; omega)))) | with_reducible refine Kp.trans ?_ (by assumption))))).size hgs; clear hgs); refine hK.out _ _ ?_ (fun hHd => ?_); (focus ((try dsimp only); exact ⟨hS4, hkeep _ _ _ hX0 hX2 x0, hkeep _ _ _ hX0 hX2 x1⟩)); clear hK K; (try simp only [Act.put]))
  (refine takeH (i := 9) (oi := ?o307) (v := ?v307) ?h307 (by kernel_rfl) ?q307 (Or.inl ⟨?w307, ?y307⟩) (by assumption) ?r307; (case h307 => ((simp only [g1, g2, g3]); rfl)); (case q307 => exact fun _ _ _ h => h); (case w307 => rfl); (case y307 => (intro w' hSw; (try dsimp only at hSw); go_simp; (try with_reducible rfl))); (try simp only [Act.put, s1, s2, s3]))
  (refine takeH (i := 10) (oi := ?o308) (v := ?v308) ?h308 (by kernel_rfl) ?q308 (Or.inl ⟨?w308, ?y308⟩) (by assumption) ?r308; (case h308 => ((simp only [g1, g2, g3]); rfl)); (case q308 => exact fun _ _ _ h => h); (case w308 => rfl); (case y308 => (intro w' hSw; (try dsimp only at hSw); go_simp; (try with_reducible rfl))); (try simp only [Act.put, s1, s2, s3]))
  (refine wpAnyH_ready (rs := [11]) (by kernel_rfl) (by simp) ?_; refine AllReadyH.cons (o := ?o309) ?h309 (fun K hK => ?s309) AllReadyH.nil; (case h309 => (first | ((simp only [g1, g2, g3]); rfl) | rfl)); go_simp; (try dsimp only); refine hK.out _ _ ?_ (fun hHd => ?_); (focus ((try dsimp only); exact ⟨by simpa using hS4, (cell_heap (Below.heap_setCell _ _ _ _ (by show w1.heap.size ≠ h; omega)) _).trans (hkeep _ _ _ hX0 hX2 x0), (cell_heap (Below.heap_setCell _ _ _ _ (by show w1.heap.size ≠ h; omega)) _).trans (hkeep _ _ _ hX0 hX2 x1)⟩)); clear hK K; (try simp only [Act.put, s1, s2, s3]))
  refine wpAnyH_done (by kernel_rfl) ?_ _
  rotate_left
  all_goals
    have hls4 := Row.setN (enc := Lane.cells) (fun _ => rfl) hpr rfl (get_last hm) (j := 1) (y := (⟨yx, ⟨a5, yl.length + 1, c5, yl ++ [(⟨qk, qn, ql, qy, qh⟩ : Put)]⟩⟩ : Lane)) (u := .slice a5 (yl ++ [(⟨qk, qn, ql, qy, qh⟩ : Put)]).length c5) (by decide) (by simp [Lane.cells])
    rw [set_last hm] at hls4
    have hys4 := hr'.stay (w' := w4.setCell ⟨h, m * 2 + 1, none⟩ (.slice a5 (yl ++ [(⟨qk, qn, ql, qy, qh⟩ : Put)]).length c5)) (fun b hb1 => Below.heap_setCell _ _ _ _ (fun e => by
      rcases hlw with h' | ⟨b2, h', h2⟩
      · rw [hb1] at h'
        exact (HYG.out b h'.symm).2 e
      · rw [hb1] at h'
        cases h'
        have : b = h := e
        omega))
    simp only [List.length_append, List.length_singleton] at hls4 hys4 htw hlw ⊢
    clear hHd
    go_wp2_with fail
    (try go_ret)
    first
      | exact ⟨a5, c5, rfl, hls4, hys4, htw, hlw⟩
      | exact ⟨rfl, a5, c5, hls4, hys4, htw, hlw⟩
end Go.Proofs.YteadhacoglcbfaaDoor
namespace Go.Proofs.YteadhacoglcbfaaDoor

open Go.ChangeShapes Go.WideShapes Go.ChangeAt Go.RowKit Go.Shelf

set_option maxRecDepth 100000 in
set_option maxHeartbeats 8000000 in
theorem take_nolane (s : List UInt8) (wd : List UInt8) (ns : List Int) (base : Nat) (qs : List Page) (k g vc : Nat) (la : Option Addr) (lc : Nat) (ll : List Lane) (pt pf pl : Int)
    (hp : parseP s = some (wd, ns)) (hw1 : wd ≠ wPage) (hw2 : wd ≠ wLane) (hs : s.length ≤ 10000) (hk : qs.length = k) (w : World) (he : Env w)
    (hr : Row w base 49 4 Page.cells (.slice (some ⟨g, 0, none⟩) (k + 1) vc) (qs ++ [⟨⟨la, 0, lc, ll⟩, pt, pf, pl⟩])) :
    Calls Tryd.prog 21 #[.slice (some ⟨g, 0, none⟩) (k + 1) vc, sv s] w fun e w' => e = .panicked gone ∧ Kp w w' := by
  have CPA := Lib.hid (parse_any s hs w he)
  have hgg := (hr.lt g rfl).2
  obtain ⟨-, hvc1, hvm⟩ := hr.shape1 (by rw [List.length_append, List.length_singleton]; omega)
  unfold maxLen at hvm
  have P0 := Row.cellN (enc := Page.cells) (fun _ => rfl) hr rfl (get_last hk) (j := 0) rfl
  simp only [Nat.add_zero] at P0
  have n1 : (wd == [112, 97, 103, 101]) = false := beq_eq_false_iff_ne.2 hw1
  have n2 : (wd == [108, 97, 110, 101]) = false := beq_eq_false_iff_ne.2 hw2
  clear he hr hw1 hw2
  go_enter Tryd.func21, Tryd.ntmps21
  go_wp2_with fail
  refine CPA.out.mono ?_
  rintro e w1 ⟨k1, ⟨wd', ns', na, nc, hp2, rfl, hsl, hn⟩ | ⟨hp2, _⟩⟩
  rotate_left
  · rw [hp] at hp2; cases hp2
  rw [hp] at hp2
  simp only [Option.some.injEq, Prod.mk.injEq] at hp2
  obtain ⟨rfl, rfl⟩ := hp2
  have p1 := (k1.cell (p := ⟨g, k * 4, none⟩) hgg).trans P0
  have hgg1 := Nat.lt_of_lt_of_le hgg k1.size
  clear hsl CPA P0
  have j1 : decide ((k : Int) < 0) = false := decide_eq_false (by omega)
  have ek : (k : Int) < (k : Int) + 1 := by omega
  go_wp2_with fail
  exact ⟨rfl, rfl, (by (repeat (first | with_reducible assumption | with_reducible exact Kp.refl _ | with_reducible refine Kp.drew ?_ | with_reducible refine Kp.drewN ?_ _ | with_reducible refine Kp.alloc ?_ _ | ((with_reducible refine Kp.setCell ?_ ?_ _); rotate_left; (focus (first | omega | (simp; done) | (simp; omega)))) | with_reducible refine Kp.trans ?_ (by assumption))))⟩
set_option maxRecDepth 100000 in
set_option maxHeartbeats 4000000 in
theorem closure_ok (va : Option Addr) (vn vc : Nat) (line : List UInt8) (O S : Nat) (w : World) (P : Value → World → Prop) (hO : Blk w O [.slice va vn vc] 23) (hS : Blk w S [sv line] 9)
    (hT : Calls Tryd.prog 21 #[.slice va vn vc, sv line] w fun e w2 => ∃ a n c, e = .returned (.slice a n c) ∧ Blk w2 O [.slice va vn vc] 23 ∧ P (.slice a n c) w2) :
    Calls Tryd.prog 20 #[.pointer (some ⟨O, 0, none⟩), .pointer (some ⟨S, 0, none⟩)] w fun e w' => e = .returned (.tuple #[]) ∧ ∃ a n c w2, P (.slice a n c) w2 ∧ Blk w2 O [.slice va vn vc] 23 ∧ w' = w2.setCell ⟨O, 0, none⟩ (.slice a n c) := by
  have HT := Lib.hid hT
  have o0 := hO.cell 0 rfl
  have s0 := hS.cell 0 rfl
  clear hT
  go_enter Tryd.func20, Tryd.ntmps20
  go_wp2_with fail
  refine HT.out.mono ?_
  rintro e w2 ⟨a, n, c, rfl, hb, hP⟩
  have z0 := hb.cell 0 rfl
  have f0 := hb.free 0
  go_wp2_with fail
  exact ⟨rfl, _, results_none rfl _ _ _, rfl, a, n, c, w2, hP, hb, rfl⟩
set_option maxRecDepth 100000 in
set_option maxHeartbeats 4000000 in
theorem closure_bad (va : Option Addr) (vn vc : Nat) (line : List UInt8) (O S : Nat) (w : World) (P : World → Prop) (hO : Blk w O [.slice va vn vc] 23) (hS : Blk w S [sv line] 9)
    (hT : Calls Tryd.prog 21 #[.slice va vn vc, sv line] w fun e w2 => e = .panicked gone ∧ P w2) :
    Calls Tryd.prog 20 #[.pointer (some ⟨O, 0, none⟩), .pointer (some ⟨S, 0, none⟩)] w fun e w' => e = .panicked gone ∧ P w' := by
  have HT := Lib.hid hT
  have o0 := hO.cell 0 rfl
  have s0 := hS.cell 0 rfl
  clear hT
  go_enter Tryd.func20, Tryd.ntmps20
  go_wp2_with fail
  refine HT.out.mono ?_
  rintro e w2 ⟨rfl, hP⟩
  go_wp2_with fail
  exact ⟨rfl, rfl, hP⟩
end Go.Proofs.YteadhacoglcbfaaDoor
namespace Go.Proofs.YteadhacoglcbfaaDoor

open Go.ChangeShapes Go.WideShapes Go.ChangeAt Go.RowKit Go.Shelf

theorem row_away {α : Type} {w : World} {base n : Nat} {e : TypeId} {enc : α → List Value} {v : Value} {l : List α} (h : Row w base e n enc v l) {B : Nat} {cs : List Value} {t : TypeId} (hB : Blk w B cs t) (ht : e ≠ t) (o : Nat) (u : Value) : Row (w.setCell ⟨B, o, none⟩ u) base e n enc v l :=
  h.stay fun g hg => Below.heap_setCell _ _ _ _ (fun e2 => by
    obtain ⟨cur, hc⟩ := h.type hg
    have e3 : g = B := e2
    rw [e3, hB.heap] at hc
    cases hc; exact ht rfl)
theorem blk_away {w : World} {b B : Nat} {cs ds : List Value} {t t' : TypeId} (h : Blk w b cs t) (hB : Blk w B ds t') (ht : t ≠ t') (o : Nat) (u : Value) : Blk (w.setCell ⟨B, o, none⟩ u) b cs t :=
  h.other (a := ⟨B, o, none⟩) (fun e => by
    have e' : b = B := e
    have h1 := h.heap
    rw [e', hB.heap] at h1
    cases h1; exact ht rfl) u
theorem own_ne {α : Type} {w : World} {base n : Nat} {e : TypeId} {enc : α → List Value} {v : Value} {l : List α} (h : Row w base e n enc v l) {B : Nat} {cs : List Value} {t : TypeId} (hB : Blk w B cs t) (ht : e ≠ t) : v.ownBlock ≠ some B := fun hg => by
  obtain ⟨cur, hc⟩ := h.type hg
  rw [hB.heap] at hc
  cases hc; exact ht rfl
theorem Blk.twain {w w' : World} {b : Nat} {cs : List Value} {t : TypeId} {r1 r2 : Option Nat} (h : Blk w b cs t) (k : Twain w w' r1 r2) (h1 : r1 ≠ some b) (h2 : r2 ≠ some b) : Blk w' b cs t := ⟨(k.block b h.lt h1 h2).trans h.heap⟩
theorem Blk.grown1 {w w' : World} {b : Nat} {cs : List Value} {t : TypeId} {r : Option Nat} (h : Blk w b cs t) (k : w.grownBy w' r) (h1 : r ≠ some b) : Blk w' b cs t := ⟨(k.block b h.lt (fun e => h1 e.symm)).trans h.heap⟩
theorem Kp.twain {W w w' : World} {r1 r2 : Option Nat} (h : Kp W w) (k : Twain w w' r1 r2) (h1 : ∀ b, r1 = some b → W.heap.size ≤ b) (h2 : ∀ b, r2 = some b → W.heap.size ≤ b) : Kp W w' :=
  ⟨k.os.trans h.os, k.tape.trans h.tape, k.output.trans h.output, Nat.le_trans h.size k.size, fun i hi => (k.block i (Nat.lt_of_lt_of_le hi h.size) (fun e => by have := h1 i e; omega) (fun e => by have := h2 i e; omega)).trans (h.block i hi)⟩
theorem Kp.grown1 {W w w' : World} {r : Option Nat} (h : Kp W w) (k : w.grownBy w' r) (h1 : ∀ b, r = some b → W.heap.size ≤ b) : Kp W w' :=
  ⟨k.os.trans h.os, k.tape.trans h.tape, k.output.trans h.output, Nat.le_trans h.size k.size, fun i hi => (k.block i (Nat.lt_of_lt_of_le hi h.size) (fun e => by have := h1 i e.symm; omega)).trans (h.block i hi)⟩
/-- What is read so far of the text that is always read: one page, one lane, one thing. -/
def pg (la : Option Addr) (n lc : Nat) (ll : List Lane) : Page := ⟨⟨la, n, lc, ll⟩, -1, 5, 5⟩
def ln (a : Option Addr) (n c : Nat) (l : List Put) : Lane := ⟨3, ⟨a, n, c, l⟩⟩
def AwS (base k : Nat) (v : Value) (w : World) : Prop := match k with
  | 0 => v = .slice none 0 0
  | 1 => ∃ g c, v = .slice (some ⟨g, 0, none⟩) 1 c ∧ Row w base 49 4 Page.cells v [pg none 0 0 []]
  | 2 => ∃ g c h lc, v = .slice (some ⟨g, 0, none⟩) 1 c ∧ Row w base 49 4 Page.cells v [pg (some ⟨h, 0, none⟩) 1 lc [ln none 0 0 []]] ∧ Row w base 46 2 Lane.cells (.slice (some ⟨h, 0, none⟩) 1 lc) [ln none 0 0 []]
  | 3 => ∃ g c h lc j pc, v = .slice (some ⟨g, 0, none⟩) 1 c ∧ Row w base 49 4 Page.cells v [pg (some ⟨h, 0, none⟩) 1 lc []] ∧ Row w base 46 2 Lane.cells (.slice (some ⟨h, 0, none⟩) 1 lc) [ln (some ⟨j, 0, none⟩) 1 pc []] ∧ Row w base 33 5 Put.cells (.slice (some ⟨j, 0, none⟩) 1 pc) [⟨1, 2, 0, 0, 3⟩]
  | _ => False
def AwT (base k O : Nat) (v : Value) (w : World) : Prop := Blk w O [v] 23 ∧ base ≤ w.heap.size ∧ base ≤ O ∧ AwS base k v w
theorem AwS.move {base k : Nat} {v : Value} {w w' : World} (h : AwS base k v w) (hr : ∀ {α : Type} {n : Nat} {e : TypeId} {enc : α → List Value} {u : Value} {l : List α}, (e = 49 ∨ e = 46 ∨ e = 33) → Row w base e n enc u l → Row w' base e n enc u l) : AwS base k v w' := by
  unfold AwS at h ⊢
  rcases k with _ | _ | _ | _ | k
  · exact h
  · obtain ⟨g, c, e, q1⟩ := h
    exact ⟨g, c, e, hr (.inl rfl) q1⟩
  · obtain ⟨g, c, h, lc, e, q1, q2⟩ := h
    exact ⟨g, c, h, lc, e, hr (.inl rfl) q1, hr (.inr (.inl rfl)) q2⟩
  · obtain ⟨g, c, h, lc, j, pc, e, q1, q2, q3⟩ := h
    exact ⟨g, c, h, lc, j, pc, e, hr (.inl rfl) q1, hr (.inr (.inl rfl)) q2, hr (.inr (.inr rfl)) q3⟩
  · exact h
theorem AwT.kp {base k O : Nat} {v : Value} {w w' : World} (k1 : Kp w w') (h : AwT base k O v w) : AwT base k O v w' :=
  ⟨h.1.kp k1, Nat.le_trans h.2.1 k1.size, h.2.2.1, h.2.2.2.move fun _ r => r.kp k1⟩
theorem AwT.bool {base k O : Nat} {v : Value} {w : World} {B : Nat} {b : Bool} {u : Value} (hB : Blk w B [.bool b] 4) (h : AwT base k O v w) : AwT base k O v (w.setCell ⟨B, 0, none⟩ u) :=
  ⟨blk_away h.1 hB (by decide) 0 u, by have := h.2.1; simpa using this, h.2.2.1, h.2.2.2.move fun he r => row_away r hB (by rcases he with rfl | rfl | rfl <;> decide) 0 u⟩
theorem AwT.sl {base k O : Nat} {v : Value} {w : World} (h : AwT base k O v w) : ∃ a n c, v = .slice a n c := by
  obtain ⟨_, _, _, h⟩ := h
  unfold AwS at h
  rcases k with _ | _ | _ | _ | k
  · exact ⟨_, _, _, h⟩
  · obtain ⟨g, c, e, q1⟩ := h; exact ⟨_, _, _, e⟩
  · obtain ⟨g, c, _, _, e, _⟩ := h; exact ⟨_, _, _, e⟩
  · obtain ⟨g, c, _, _, _, _, e, _⟩ := h; exact ⟨_, _, _, e⟩
  · exact absurd h id
/-- The state behind a line. -/
theorem AwT.next {base k O : Nat} {v v' : Value} {w : World} (hO : Blk w O [v] 23) (hb : base ≤ w.heap.size) (hbO : base ≤ O) (h : AwS base k v' w) : AwT base k O v' (w.setCell ⟨O, 0, none⟩ v') :=
  ⟨hO.set 0 v', by simpa using hb, hbO, h.move fun he r => row_away r hO (by rcases he with rfl | rfl | rfl <;> decide) 0 v'⟩
end Go.Proofs.YteadhacoglcbfaaDoor
namespace Go.Proofs.YteadhacoglcbfaaDoor

open Go.ChangeShapes Go.WideShapes Go.ChangeAt Go.RowKit Go.Shelf

structure LnD where
  x : Int
  puts : List Put
structure PgD where
  lanes : List LnD
  t : Int
  f : Int
  l : Int
/-- The pages with a line more, if it can stand there. -/
def takeP (ds : List PgD) (s : List UInt8) : Option (List PgD) := match parseP s with
  | none => none
  | some (w, ns) =>
    if w = wPage then (match ns with
      | [n, t, f, l] => if n = (ds.length : Int) then some (ds ++ [⟨[], t, f, l⟩]) else none
      | _ => none)
    else match ds.getLast? with
      | none => none
      | some d => if w = wLane then (match ns with
          | [x] => some (ds.dropLast ++ [⟨d.lanes ++ [⟨x, []⟩], d.t, d.f, d.l⟩])
          | _ => none)
        else match d.lanes.getLast? with
          | none => none
          | some y => match putOf w ns with
            | none => none
            | some q => some (ds.dropLast ++ [⟨d.lanes.dropLast ++ [⟨y.x, y.puts ++ [q]⟩], d.t, d.f, d.l⟩])
/-- Two lists, element by element. -/
inductive All2 {α β : Type} (R : α → β → Prop) : List α → List β → Prop where
  | nil : All2 R [] []
  | snoc {l : List α} {l' : List β} {x : α} {y : β} : All2 R l l' → R x y → All2 R (l ++ [x]) (l' ++ [y])
theorem All2.imp {α β : Type} {R S : α → β → Prop} (h : ∀ x y, R x y → S x y) : ∀ {l : List α} {l' : List β}, All2 R l l' → All2 S l l'
  | _, _, .nil => .nil
  | _, _, .snoc a b => .snoc (a.imp h) (h _ _ b)
theorem All2.length {α β : Type} {R : α → β → Prop} : ∀ {l : List α} {l' : List β}, All2 R l l' → l.length = l'.length
  | _, _, .nil => rfl
  | _, _, .snoc a _ => by rw [List.length_append, List.length_append, a.length]; rfl
/-- A row whose block is one of F. -/
def RowIn {α : Type} (F : List Nat) (w : World) (base n : Nat) (e : TypeId) (enc : α → List Value) (v : Value) (l : List α) : Prop := Row w base e n enc v l ∧ ∀ b, v.ownBlock = some b → b ∈ F
/-- Nothing in F has turned. -/
def Same (F : List Nat) (w w' : World) : Prop := ∀ b, b ∈ F → w'.heap[b]? = w.heap[b]?
theorem RowIn.same {α : Type} {F F' : List Nat} {w w' : World} {base n : Nat} {e : TypeId} {enc : α → List Value} {v : Value} {l : List α} (h : RowIn F w base n e enc v l) (hs : Same F w w') (hF : ∀ b, b ∈ F → b ∈ F') : RowIn F' w' base n e enc v l :=
  ⟨h.1.stay fun b hb => hs b (h.2 b hb), fun b hb => hF b (h.2 b hb)⟩
/-- A lane that is left alone from now on. -/
def LnOk (F : List Nat) (w : World) (base : Nat) (y : Lane) (e : LnD) : Prop := y.x = e.x ∧ RowIn F w base 5 33 Put.cells (.slice y.s.a y.s.len y.s.cap) e.puts
theorem LnOk.same {F F' : List Nat} {w w' : World} {base : Nat} {y : Lane} {e : LnD} (h : LnOk F w base y e) (hs : Same F w w') (hF : ∀ b, b ∈ F → b ∈ F') : LnOk F' w' base y e := ⟨h.1, h.2.same hs hF⟩
/-- A page that is left alone from now on. -/
def PgOk (F : List Nat) (w : World) (base : Nat) (p : Page) (d : PgD) : Prop := p.t = d.t ∧ p.f = d.f ∧ p.l = d.l ∧ ∃ ll, RowIn F w base 2 46 Lane.cells (.slice p.s.a p.s.len p.s.cap) ll ∧ All2 (LnOk F w base) ll d.lanes
theorem PgOk.same {F F' : List Nat} {w w' : World} {base : Nat} {p : Page} {d : PgD} (h : PgOk F w base p d) (hs : Same F w w') (hF : ∀ b, b ∈ F → b ∈ F') : PgOk F' w' base p d := by
  obtain ⟨h1, h2, h3, ll, h4, h5⟩ := h
  exact ⟨h1, h2, h3, ll, h4.same hs hF, h5.imp fun _ _ h => h.same hs hF⟩
/-- The last page: its lanes' row, and the last lane's things, may turn; neither lies in F. -/
structure Tip (F : List Nat) (w : World) (base : Nat) (p : Page) (d : PgD) : Prop where
  t : p.t = d.t
  f : p.f = d.f
  l : p.l = d.l
  lanes : (d.lanes = [] ∧ p.s.a = none ∧ p.s.len = 0 ∧ p.s.cap = 0) ∨ ∃ ks y ds e, d.lanes = ds ++ [e] ∧ Row w base 46 2 Lane.cells (.slice p.s.a p.s.len p.s.cap) (ks ++ [y]) ∧ All2 (LnOk F w base) ks ds ∧ y.x = e.x ∧ Row w base 33 5 Put.cells (.slice y.s.a y.s.len y.s.cap) e.puts ∧
    (∀ b, (Value.slice p.s.a p.s.len p.s.cap).ownBlock = some b → b ∉ F) ∧ ∀ b, (Value.slice y.s.a y.s.len y.s.cap).ownBlock = some b → b ∉ F
/-- Pages while they are read. -/
def Rep (w : World) (base : Nat) (v : Value) (ds : List PgD) : Prop :=
  (ds = [] ∧ v = .slice none 0 0) ∨ ∃ (F : List Nat) (qs : List Page) (p : Page) (es : List PgD) (d : PgD), ds = es ++ [d] ∧ Row w base 49 4 Page.cells v (qs ++ [p]) ∧ All2 (PgOk F w base) qs es ∧ Tip F w base p d ∧ ∀ b, b ∈ F → b < w.heap.size ∧ ∃ cs t, w.heap[b]? = some (.cells cs t (0, 0)) ∧ (t = 46 ∨ t = 33)
end Go.Proofs.YteadhacoglcbfaaDoor
namespace Go.Proofs.YteadhacoglcbfaaDoor

open Go.ChangeShapes Go.WideShapes Go.ChangeAt Go.RowKit Go.Shelf

def RowTy (w : World) (F : List Nat) : Prop := ∀ b, b ∈ F → b < w.heap.size ∧ ∃ cs t, w.heap[b]? = some (.cells cs t (0, 0)) ∧ (t = 46 ∨ t = 33)
theorem RowTy.ne {w : World} {F : List Nat} (h : RowTy w F) {b g : Nat} (hb : b ∈ F) {cs : Array Value} {t : TypeId} (hg : w.heap[g]? = some (.cells cs t (0, 0))) (h1 : t ≠ 46) (h2 : t ≠ 33) : b ≠ g := fun e => by
  obtain ⟨_, cs', t', h3, h4⟩ := h b hb
  rw [e, hg] at h3
  cases h3
  rcases h4 with h4 | h4
  · exact h1 h4
  · exact h2 h4
theorem RowTy.row {α : Type} {w : World} {F : List Nat} (h : RowTy w F) {base n : Nat} {e : TypeId} {enc : α → List Value} {v : Value} {l : List α} (hr : Row w base e n enc v l) (he : e = 46 ∨ e = 33) : RowTy w (F ++ v.ownBlock.toList) := fun b hb => by
  rcases List.mem_append.1 hb with hb | hb
  · exact h b hb
  · have hv : v.ownBlock = some b := by simpa using hb
    obtain ⟨cs, hc⟩ := hr.type hv
    exact ⟨(hr.lt b hv).2, cs, e, hc, he⟩
theorem RowTy.same {w w' : World} {F : List Nat} (h : RowTy w F) (hs : Same F w w') (hz : w.heap.size ≤ w'.heap.size) : RowTy w' F := fun b hb => by
  obtain ⟨h1, cs, t, h2, h3⟩ := h b hb
  exact ⟨Nat.lt_of_lt_of_le h1 hz, cs, t, (hs b hb).trans h2, h3⟩
theorem All2.snoc_inv {α β : Type} {R : α → β → Prop} {l : List α} {l' : List β} (h : All2 R l l') (hl : l' ≠ []) : ∃ k x k' y, l = k ++ [x] ∧ l' = k' ++ [y] ∧ All2 R k k' ∧ R x y := by
  cases h with
  | nil => exact absurd rfl hl
  | snoc a b => exact ⟨_, _, _, _, rfl, rfl, a, b⟩
/-- The last page, as one that is left alone from now on: its blocks are put to F. -/
theorem Tip.freeze {F : List Nat} {w : World} {base : Nat} {p : Page} {d : PgD} (h : Tip F w base p d) (hF : RowTy w F) : ∃ G, (∀ b, b ∈ F → b ∈ G) ∧ RowTy w G ∧ PgOk G w base p d := by
  obtain ⟨h1, h2, h3, h4⟩ := h
  obtain ⟨⟨pa, pn, pc, pl⟩, pt, pf, pq⟩ := p
  rcases h4 with ⟨e1, e2, e3, e4⟩ | ⟨ks, y, ds, e, e1, q1, q2, q3, q4, q5, q6⟩
  · simp only at e2 e3 e4
    subst e2 e3 e4
    exact ⟨F, fun _ h => h, hF, h1, h2, h3, [], ⟨Row.nil _ _ _ _ _, fun b h => by cases h⟩, by rw [e1]; exact .nil⟩
  · refine ⟨(F ++ (Value.slice pa pn pc).ownBlock.toList) ++ (Value.slice y.s.a y.s.len y.s.cap).ownBlock.toList, fun b h => List.mem_append_left _ (List.mem_append_left _ h), (hF.row q1 (.inl rfl)).row q4 (.inr rfl), h1, h2, h3, ks ++ [y], ⟨q1, fun b h => ?_⟩, ?_⟩
    · exact List.mem_append_left _ (List.mem_append_right _ (by simpa using h))
    · rw [e1]
      refine .snoc (q2.imp fun _ _ h => h.same (fun _ _ => rfl) fun b hb => List.mem_append_left _ (List.mem_append_left _ hb)) ⟨q3, q4, fun b h => List.mem_append_right _ (by simpa using h)⟩
theorem rep_nil (w : World) (base : Nat) : Rep w base (.slice none 0 0) [] := .inl ⟨rfl, rfl⟩
/-- The pages of a state, as a row; and what one page more makes of it. -/
theorem rep_page {w : World} {base : Nat} {v : Value} {ds : List PgD} (h : Rep w base v ds) : ∃ ps : List Page, ps.length = ds.length ∧ Row w base 49 4 Page.cells v ps ∧
    ∀ (w' : World) (v' : Value) (t f l : Int), Row w' base 49 4 Page.cells v' (ps ++ [⟨⟨none, 0, 0, []⟩, t, f, l⟩]) → w.grownBy w' v.ownBlock → Rep w' base v' (ds ++ [⟨[], t, f, l⟩]) := by
  rcases h with ⟨rfl, rfl⟩ | ⟨F, qs, p, es, d, rfl, hr, hq, ht, hF⟩
  · refine ⟨[], rfl, Row.nil _ _ _ _ _, fun w' v' t f l hr' _ => .inr ⟨[], [], _, [], _, rfl, hr', .nil, ⟨rfl, rfl, rfl, .inl ⟨rfl, rfl, rfl, rfl⟩⟩, fun b h => by cases h⟩⟩
  · refine ⟨qs ++ [p], by rw [List.length_append, List.length_append, hq.length]; rfl, hr, fun w' v' t f l hr' hg => ?_⟩
    obtain ⟨G, hFG, hG, hp⟩ := ht.freeze hF
    have hs : Same G w w' := fun b hb => hg.block b (hG b hb).1 (fun e => by
      obtain ⟨cs, hc⟩ := hr.type e.symm
      exact hG.ne hb hc (by decide) (by decide) rfl)
    refine .inr ⟨G, qs ++ [p], _, es ++ [d], _, rfl, hr', .snoc (hq.imp fun _ _ h => h.same (fun b hb => hs b (hFG b hb)) hFG) (hp.same hs fun _ h => h), ⟨rfl, rfl, rfl, .inl ⟨rfl, rfl, rfl, rfl⟩⟩, hG.same hs hg.size⟩
theorem page_ghost {w : World} {base : Nat} {v : Value} {qs : List Page} {a : Option Addr} {n c : Nat} {l l' : List Lane} {t f q : Int} (h : Row w base 49 4 Page.cells v (qs ++ [⟨⟨a, n, c, l⟩, t, f, q⟩])) : Row w base 49 4 Page.cells v (qs ++ [⟨⟨a, n, c, l'⟩, t, f, q⟩]) := by
  unfold Row at h ⊢
  rw [List.length_append, List.flatMap_append] at h ⊢
  exact h
theorem lane_ghost {w : World} {base : Nat} {v : Value} {ks : List Lane} {x : Int} {a : Option Addr} {n c : Nat} {l l' : List Put} (h : Row w base 46 2 Lane.cells v (ks ++ [⟨x, ⟨a, n, c, l⟩⟩])) : Row w base 46 2 Lane.cells v (ks ++ [⟨x, ⟨a, n, c, l'⟩⟩]) := by
  unfold Row at h ⊢
  rw [List.length_append, List.flatMap_append] at h ⊢
  exact h
theorem row_len {α : Type} {w : World} {base n : Nat} {e : TypeId} {enc : α → List Value} {a : Option Addr} {m c : Nat} {l : List α} (h : Row w base e n enc (.slice a m c) l) : m = l.length := by
  rcases h.2 with ⟨e1, e2⟩ | ⟨g, cap, cur, e1, _⟩
  · simp only [Value.slice.injEq] at e1
    omega
  · simp only [Value.slice.injEq] at e1
    exact e1.2.1
theorem row_snoc_shape {α : Type} {w : World} {base n : Nat} {e : TypeId} {enc : α → List Value} {v : Value} {l : List α} {x : α} (h : Row w base e n enc v (l ++ [x])) : ∃ g c, v = .slice (some ⟨g, 0, none⟩) (l.length + 1) c := by
  obtain ⟨g, c, e1, _⟩ := h.shape (by rw [List.length_append, List.length_singleton]; omega)
  rw [List.length_append, List.length_singleton] at e1
  exact ⟨g, c, e1⟩
/-- What a state with a page is, as take_lane wants it, and what one lane more makes of it. -/
theorem rep_lane {w : World} {base : Nat} {v : Value} {es : List PgD} {d : PgD} (h : Rep w base v (es ++ [d])) : ∃ (g k vc : Nat) (la : Option Addr) (lc : Nat) (ll : List Lane) (qs : List Page) (pt pf pl : Int),
    v = .slice (some ⟨g, 0, none⟩) (k + 1) vc ∧ qs.length = k ∧ k = es.length ∧ ll.length = d.lanes.length ∧ Row w base 49 4 Page.cells v (qs ++ [⟨⟨la, ll.length, lc, ll⟩, pt, pf, pl⟩]) ∧ Row w base 46 2 Lane.cells (.slice la ll.length lc) ll ∧
    ∀ (w' : World) (a' : Option Addr) (c' : Nat) (x : Int), Row w' base 49 4 Page.cells v (qs ++ [⟨⟨a', ll.length + 1, c', ll ++ [⟨x, ⟨none, 0, 0, []⟩⟩]⟩, pt, pf, pl⟩]) → Row w' base 46 2 Lane.cells (.slice a' (ll.length + 1) c') (ll ++ [⟨x, ⟨none, 0, 0, []⟩⟩]) →
      Twain w w' (Value.slice la ll.length lc).ownBlock (some g) → ((Value.slice a' (ll.length + 1) c').ownBlock = (Value.slice la ll.length lc).ownBlock ∨ ∃ b, (Value.slice a' (ll.length + 1) c').ownBlock = some b ∧ w.heap.size ≤ b) → Rep w' base v (es ++ [⟨d.lanes ++ [⟨x, []⟩], d.t, d.f, d.l⟩]) := by
  rcases h with ⟨e0, _⟩ | ⟨F, qs, ⟨⟨pa, pn, pc, pl⟩, pt, pf, pq⟩, es', d', e0, hr, hq, ⟨t1, t2, t3, tl⟩, hF⟩
  · exact absurd e0 (by simp)
  obtain ⟨rfl, e0'⟩ := List.append_inj' e0 rfl
  obtain rfl : d = d' := by simpa using e0'
  obtain ⟨g, vc, rfl⟩ := row_snoc_shape hr
  obtain ⟨gc, hgt⟩ := hr.type (g := g) rfl
  have hF' : RowTy w F := hF
  rcases tl with ⟨e1, e2, e3, e4⟩ | ⟨ks, y, dl, e, e1, q1, q2, q3, q4, q5, q6⟩
  · simp only at e2 e3 e4
    subst e2 e3 e4
    refine ⟨g, qs.length, vc, none, 0, [], qs, pt, pf, pq, rfl, rfl, hq.length, by rw [e1]; rfl, page_ghost hr, Row.nil _ _ _ _ _, fun w' a' c' x hr' hl' htw how => ?_⟩
    have hs : Same F w w' := fun b hb => htw.block b (hF b hb).1 (fun h => by cases h) (fun h => by cases h; exact hF'.ne hb hgt (by decide) (by decide) rfl)
    refine .inr ⟨F, qs, _, es, _, rfl, hr', hq.imp fun _ _ h => h.same hs fun _ h => h, ⟨t1, t2, t3, .inr ⟨[], _, [], ⟨x, []⟩, by rw [e1], hl', .nil, rfl, Row.nil _ _ _ _ _, fun b hb hbF => ?_, fun b h => by cases h⟩⟩, hF'.same hs htw.size⟩
    rcases how with h | ⟨b2, h, h2⟩
    · rw [hb] at h; cases h
    · have : b = b2 := Option.some.inj (hb.symm.trans h)
      have := (hF b hbF).1
      omega
  · have hpn := row_len q1
    simp only at hpn
    subst hpn
    refine ⟨g, qs.length, vc, pa, pc, ks ++ [y], qs, pt, pf, pq, rfl, rfl, hq.length, by rw [e1, List.length_append, List.length_append, q2.length]; rfl, page_ghost hr, q1, fun w' a' c' x hr' hl' htw how => ?_⟩
    have hG : RowTy w (F ++ (Value.slice y.s.a y.s.len y.s.cap).ownBlock.toList) := hF'.row q4 (.inr rfl)
    have hs : Same (F ++ (Value.slice y.s.a y.s.len y.s.cap).ownBlock.toList) w w' := fun b hb => htw.block b (hG b hb).1 (fun h => by
      rcases List.mem_append.1 hb with hb | hb
      · exact q5 b h hb
      · have hb' : (Value.slice y.s.a y.s.len y.s.cap).ownBlock = some b := by simpa using hb
        obtain ⟨c1, z1⟩ := q4.type hb'
        obtain ⟨c2, z2⟩ := q1.type h
        rw [z1] at z2
        cases z2) (fun h => by cases h; exact hG.ne hb hgt (by decide) (by decide) rfl)
    have hs1 : Same F w w' := fun b hb => hs b (List.mem_append_left _ hb)
    refine .inr ⟨F ++ (Value.slice y.s.a y.s.len y.s.cap).ownBlock.toList, qs, _, es, _, rfl, hr', hq.imp fun _ _ h => h.same hs1 fun _ h => List.mem_append_left _ h, ⟨t1, t2, t3, .inr ⟨ks ++ [y], _, d.lanes, ⟨x, []⟩, rfl, hl', ?_, rfl, Row.nil _ _ _ _ _, fun b hb hbF => ?_, fun b h => by cases h⟩⟩, hG.same hs htw.size⟩
    · rw [e1]
      exact .snoc (q2.imp fun _ _ h => h.same hs1 fun _ h => List.mem_append_left _ h) ⟨q3, q4.stay fun b hb => hs b (List.mem_append_right _ (by simpa using hb)), fun b hb => List.mem_append_right _ (by simpa using hb)⟩
    · rcases how with h | ⟨b2, h, h2⟩
      · have hb2 := h.symm.trans hb
        rcases List.mem_append.1 hbF with hbF | hbF
        · exact q5 b hb2 hbF
        · have hb' : (Value.slice y.s.a y.s.len y.s.cap).ownBlock = some b := by simpa using hbF
          obtain ⟨c1, z1⟩ := q4.type hb'
          obtain ⟨c2, z2⟩ := q1.type hb2
          rw [z1] at z2
          cases z2
      · have : b = b2 := Option.some.inj (hb.symm.trans h)
        have := (hG b hbF).1
        omega
/-- What a state with a lane is, as take_put wants it, and what one thing more makes of it. -/
theorem rep_put {w : World} {base : Nat} {v : Value} {es : List PgD} {dl : List LnD} {e : LnD} {dt df dq : Int} (h : Rep w base v (es ++ [⟨dl ++ [e], dt, df, dq⟩])) : ∃ (g k vc h lc : Nat) (ks : List Lane) (m : Nat) (qs : List Page) (pt pf pl yx : Int) (ya : Option Addr) (yc : Nat),
    v = .slice (some ⟨g, 0, none⟩) (k + 1) vc ∧ qs.length = k ∧ ks.length = m ∧ Row w base 49 4 Page.cells v (qs ++ [⟨⟨some ⟨h, 0, none⟩, m + 1, lc, ks ++ [⟨yx, ⟨ya, e.puts.length, yc, e.puts⟩⟩]⟩, pt, pf, pl⟩]) ∧
    Row w base 46 2 Lane.cells (.slice (some ⟨h, 0, none⟩) (m + 1) lc) (ks ++ [⟨yx, ⟨ya, e.puts.length, yc, e.puts⟩⟩]) ∧ Row w base 33 5 Put.cells (.slice ya e.puts.length yc) e.puts ∧
    ∀ (w' : World) (a' : Option Addr) (c' : Nat) (q : Put), Row w' base 46 2 Lane.cells (.slice (some ⟨h, 0, none⟩) (m + 1) lc) (ks ++ [⟨yx, ⟨a', e.puts.length + 1, c', e.puts ++ [q]⟩⟩]) → Row w' base 33 5 Put.cells (.slice a' (e.puts.length + 1) c') (e.puts ++ [q]) →
      Twain w w' (Value.slice ya e.puts.length yc).ownBlock (some h) → ((Value.slice a' (e.puts.length + 1) c').ownBlock = (Value.slice ya e.puts.length yc).ownBlock ∨ ∃ b, (Value.slice a' (e.puts.length + 1) c').ownBlock = some b ∧ w.heap.size ≤ b) → Rep w' base v (es ++ [⟨dl ++ [⟨e.x, e.puts ++ [q]⟩], dt, df, dq⟩]) := by
  rcases h with ⟨e0, _⟩ | ⟨F, qs, ⟨⟨pa, pn, pc, pl⟩, pt, pf, pq⟩, es', d', e0, hr, hq, ⟨t1, t2, t3, tl⟩, hF⟩
  · exact absurd e0 (by simp)
  obtain ⟨rfl, e0'⟩ := List.append_inj' e0 rfl
  simp only [List.cons.injEq, and_true] at e0'
  subst e0'
  obtain ⟨g, vc, rfl⟩ := row_snoc_shape hr
  obtain ⟨gc, hgt⟩ := hr.type (g := g) rfl
  have hF' : RowTy w F := hF
  rcases tl with ⟨e1, _⟩ | ⟨ks, ⟨yx, ⟨ya, yn, yc, yl⟩⟩, dl', e', e1, q1, q2, q3, q4, q5, q6⟩
  · exact absurd e1 (by simp)
  obtain ⟨rfl, e1'⟩ := List.append_inj' e1 rfl
  obtain rfl : e = e' := by simpa using e1'
  obtain ⟨hb0, lc, eL⟩ := row_snoc_shape q1
  simp only [Value.slice.injEq] at eL
  obtain ⟨rfl, rfl, rfl⟩ := eL
  have hyn := row_len q4
  simp only at hyn
  subst hyn
  obtain ⟨hc0, hht⟩ := q1.type (g := hb0) rfl
  refine ⟨g, qs.length, vc, hb0, pc, ks, ks.length, qs, pt, pf, pq, yx, ya, yc, rfl, rfl, rfl, page_ghost hr, lane_ghost q1, q4, fun w' a' c' q hl' hy' htw how => ?_⟩
  have hs : Same F w w' := fun b hb => htw.block b (hF b hb).1 (fun h => q6 b h hb) (fun h => by cases h; exact q5 _ rfl hb)
  have hgh : g ≠ hb0 := fun e2 => by rw [e2, hht] at hgt; cases hgt
  have hr' : Row w' base 49 4 Page.cells (.slice (some ⟨g, 0, none⟩) (qs.length + 1) vc) (qs ++ [⟨⟨some ⟨hb0, 0, none⟩, ks.length + 1, pc, pl⟩, pt, pf, pq⟩]) := hr.stay fun b hb => by
    cases hb
    refine htw.block g (hr.lt g rfl).2 (fun h => ?_) (fun h => by cases h; exact hgh rfl)
    obtain ⟨c2, z2⟩ := q4.type h
    rw [hgt] at z2
    cases z2
  refine .inr ⟨F, qs, _, es, _, rfl, hr', hq.imp fun _ _ h => h.same hs fun _ h => h, ⟨t1, t2, t3, .inr ⟨ks, _, dl, _, rfl, hl', q2.imp fun _ _ h => h.same hs fun _ h => h, q3, hy', fun b hb hbF => q5 b hb hbF, fun b hb hbF => ?_⟩⟩, hF'.same hs htw.size⟩
  rcases how with h | ⟨b2, h, h2⟩
  · exact q6 b (h.symm.trans hb) hbF
  · have : b = b2 := Option.some.inj (hb.symm.trans h)
    have := (hF b hbF).1
    omega
end Go.Proofs.YteadhacoglcbfaaDoor
namespace Go.Proofs.YteadhacoglcbfaaDoor

open Go.ChangeShapes Go.WideShapes Go.ChangeAt Go.RowKit Go.Shelf

set_option maxRecDepth 100000 in
set_option maxHeartbeats 8000000 in
theorem read_open (w : World) (N : Nat) (lines rests : Nat → List UInt8) (St : Nat → Nat → Value → World → Prop) (hC : Chain w N lines rests St) (he : Env w) (hN : N ≤ 100000) (line rest : List UInt8) (hne : rests N ≠ []) (hct : Lib.cut (rests N) [10] = (line, rest, false))
    (h0 : ∀ O w1, w.heap.size ≤ O → Kp w w1 → Blk w1 O [.slice none 0 0] 23 → St 0 O (.slice none 0 0) w1) :
    Calls Tryd.prog 7 #[sv (rests 0)] w fun e w' => e = .returned (.tuple #[.slice none 0 0, .int .i64 ((N : Int) + 1)]) ∧ Kp w w' := by
  have hmf : ∀ (fn : Fn) (first cap : Array Value) (w : World), (Instr.makeFunc fn first cap).run Tryd.prog w = .ok (.func fn first cap) w := fun _ _ _ _ => rfl
  have HE := Lib.hid he
  have HC := Lib.hid hC
  have H0 := Lib.hid h0
  have HNE := Lib.hid hne
  have HCT := Lib.hid hct
  clear he hC h0 hne hct
  obtain ⟨s0, hs0⟩ : ∃ s, rests 0 = s := ⟨_, rfl⟩
  rw [hs0]
  have HS0 := Lib.hid hs0
  clear hs0
  go_enter Tryd.func7, Tryd.ntmps7
  go_wp2_with fail
  go_step3
  go_wp2_with fail
  go_step3
  go_wp2_with fail
  go_loopw [0, 5] (fun v0 v5 wr => ∃ (k : Nat) (v : Value), k ≤ N ∧ v0 = sv (rests k) ∧ v5 = .int .i64 (k : Int) ∧ St k w.heap.size v wr ∧ Kp w wr) (fun _ v5 _ => N - (intOf v5).toNat)
  case atStart => exact ⟨0, _, Nat.zero_le _, by rw [HS0.out], rfl, H0.out _ _ (Nat.le_refl _) (by (repeat (first | with_reducible assumption | with_reducible exact Kp.refl _ | with_reducible refine Kp.drew ?_ | with_reducible refine Kp.drewN ?_ _ | with_reducible refine Kp.alloc ?_ _ | ((with_reducible refine Kp.setCell ?_ ?_ _); rotate_left; (focus (first | omega | (simp; done) | (simp; omega)))) | with_reducible refine Kp.trans ?_ (by assumption)))) (by (repeat (first | with_reducible assumption | ((with_reducible refine Blk.newL ?_ ?_); (focus (first | (simp; done) | omega)); rfl) | with_reducible refine Blk.drew ?_ | with_reducible refine Blk.drewN ?_ _ | with_reducible refine Blk.alloc ?_ _ | ((with_reducible refine Blk.other ?_ ?_ _); rotate_left; (focus (first | with_reducible assumption | omega | (simp; done) | (simp; omega))))))), (by (repeat (first | with_reducible assumption | with_reducible exact Kp.refl _ | with_reducible refine Kp.drew ?_ | with_reducible refine Kp.drewN ?_ _ | with_reducible refine Kp.alloc ?_ _ | ((with_reducible refine Kp.setCell ?_ ?_ _); rotate_left; (focus (first | omega | (simp; done) | (simp; omega)))) | with_reducible refine Kp.trans ?_ (by assumption))))⟩
  case round =>
    obtain ⟨k, v, hk, rfl, rfl, xs, xk⟩ := hrel
    by_cases hlt : k < N
    · obtain ⟨hne, hcut⟩ := HC.out.cut k hlt
      have CC := Lib.hid (cut_run (rests k) (HC.out.short k) wr (HE.out.kp xk))
      rw [hcut] at CC
      obtain ⟨S, hS⟩ : ∃ S, rests k = S := ⟨_, rfl⟩
      obtain ⟨R, hR⟩ : ∃ R, rests (k + 1) = R := ⟨_, rfl⟩
      rw [hR] at CC
      rw [hS] at CC hne ⊢
      have HR := Lib.hid hR
      have hq0 : (S == []) = false := beq_eq_false_iff_ne.2 hne
      have XS := Lib.hid xs
      clear hcut hS hR xs
      go_wp2_with fail
      refine CC.out.mono ?_
      rintro e w2 ⟨rfl, k2⟩
      have xs2 := HC.out.kp _ _ _ _ _ k2 XS.out
      have kw2 := xk.trans k2
      have hO2 := (HC.out.out _ _ _ _ xs2).1.lt
      clear CC XS k2 xk
      go_wp2_with fail
      have hst := HC.out.step k w.heap.size v ((w2.alloc (.cells #[sv (lines k)] 9)).alloc (.cells #[.bool false] 4)) w2.heap.size hlt (Nat.le_refl _) (by (repeat (first | with_reducible assumption | with_reducible exact Kp.refl _ | with_reducible refine Kp.drew ?_ | with_reducible refine Kp.drewN ?_ _ | with_reducible refine Kp.alloc ?_ _ | ((with_reducible refine Kp.setCell ?_ ?_ _); rotate_left; (focus (first | omega | (simp; done) | (simp; omega)))) | with_reducible refine Kp.trans ?_ (by assumption)))) (HC.out.kp _ _ _ _ _ (by (repeat (first | with_reducible assumption | with_reducible exact Kp.refl _ | with_reducible refine Kp.drew ?_ | with_reducible refine Kp.drewN ?_ _ | with_reducible refine Kp.alloc ?_ _ | ((with_reducible refine Kp.setCell ?_ ?_ _); rotate_left; (focus (first | omega | (simp; done) | (simp; omega)))) | with_reducible refine Kp.trans ?_ (by assumption)))) xs2) (by (repeat (first | with_reducible assumption | ((with_reducible refine Blk.newL ?_ ?_); (focus (first | (simp; done) | omega)); rfl) | with_reducible refine Blk.drew ?_ | with_reducible refine Blk.drewN ?_ _ | with_reducible refine Blk.alloc ?_ _ | ((with_reducible refine Blk.other ?_ ?_ _); rotate_left; (focus (first | with_reducible assumption | omega | (simp; done) | (simp; omega)))))))
      refine Calls.mono (caught_read _ _ _ (fun e w3 hq => ?_) hst) ?_
      · exact ⟨.inl hq.1, hq.2.2.2 _ _ (Blk.new _ _ _)⟩
      rintro e w4 ⟨e2, w3, ⟨rfl, ⟨v2, hs2⟩, k3, hb3⟩, ⟨_, rfl, rfl⟩ | ⟨e3, _⟩⟩
      · have hbb := hb3 _ _ (Blk.new (w2.alloc (.cells #[sv (lines k)] 9)) [.bool false] 4)
        have hs4 := HC.out.bool _ _ _ _ _ _ (.bool false) hbb hs2
        have hle := kw2.size
        have k4 : Kp w (w3.setCell ⟨(w2.alloc (.cells #[sv (lines k)] 9)).heap.size, 0, none⟩ (.bool false)) := Kp.setCell k3 (by simp; omega) _
        generalize w3.setCell ⟨(w2.alloc (.cells #[sv (lines k)] 9)).heap.size, 0, none⟩ (.bool false) = w5 at hs4 k4 ⊢
        clear hs2 hst hb3 k3 hbb xs2 hle
        go_wp2_with fail
        go_roundw
        case rel => exact ⟨k + 1, v2, by omega, by rw [HR.out], by go_num, hs4, k4⟩
        case measure => simp [intOf]; omega
      · cases e3
    · obtain rfl : k = N := by omega
      have CC := Lib.hid (cut_run (rests k) (HC.out.short k) wr (HE.out.kp xk))
      rw [HCT.out] at CC
      have hne := HNE.out
      obtain ⟨S, hS⟩ : ∃ S, rests k = S := ⟨_, rfl⟩
      rw [hS] at CC hne ⊢
      have hq0 : (S == []) = false := beq_eq_false_iff_ne.2 hne
      have XS := Lib.hid xs
      clear hS xs
      go_wp2_with fail
      refine CC.out.mono ?_
      rintro e w2 ⟨rfl, k2⟩
      have xs2 := HC.out.kp _ _ _ _ _ k2 XS.out
      have kw2 := xk.trans k2
      have hO2 := (HC.out.out _ _ _ _ xs2).1.lt
      clear CC XS k2 xk
      go_wp2_with fail
      dsimp only [Exit.noGoto]
      refine bodyPost_ret (results_tmp2 (by rfl) _ _ _) (by rfl) ?_
      exact ⟨rfl, (by (repeat (first | with_reducible assumption | with_reducible exact Kp.refl _ | with_reducible refine Kp.drew ?_ | with_reducible refine Kp.drewN ?_ _ | with_reducible refine Kp.alloc ?_ _ | ((with_reducible refine Kp.setCell ?_ ?_ _); rotate_left; (focus (first | omega | (simp; done) | (simp; omega)))) | with_reducible refine Kp.trans ?_ (by assumption))))⟩
end Go.Proofs.YteadhacoglcbfaaDoor
