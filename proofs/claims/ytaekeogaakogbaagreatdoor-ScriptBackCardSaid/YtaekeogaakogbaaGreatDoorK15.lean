/- The document's items (tympanref43.add): a float's line. -/
import Derived.Test.YtaekeogaakogbaaGreatDoorK10

namespace Go.Proofs.YtaekeogaakogbaaGreatDoor

open Go.ChangeShapes Go.WideShapes Go.ChangeAt Go.RowKit Go.Shelf

theorem step_set21 {g : List Int} {b : Bool} {iv nv fv : Value} (hg : g.length = 18) {last : Int} {ok : Bool} (u : Value) : (stepL (jobL g b iv nv fv) last ok).set 21 u = stepL (jobL g b iv nv u) last ok := by
  unfold stepL jobL
  rw [List.append_assoc, List.set_append_right _ _ (by rw [intsG_len, hg]; omega), intsG_len, hg, List.append_assoc]
  rfl
theorem step_set20 {g : List Int} {b : Bool} {iv nv fv : Value} (hg : g.length = 18) {last : Int} {ok : Bool} (u : Value) : (stepL (jobL g b iv nv fv) last ok).set 20 u = stepL (jobL g b iv u fv) last ok := by
  unfold stepL jobL
  rw [List.append_assoc, List.set_append_right _ _ (by rw [intsG_len, hg]; omega), intsG_len, hg, List.append_assoc]
  rfl
set_option maxRecDepth 100000 in
set_option maxHeartbeats 8000000 in
theorem add43_float (W : World) (j : JobD) (hgl : j.g.length = 18) (iv nv fv : Value) (last : Int) (ok : Bool) (x0 x1 x2 : Int) (B : Nat) (a : Option Addr) (c : Nat) (w : World) (kW : Kp W w) (hJ : JRep w W.heap.size iv nv fv j) (hl : j.items.length ≤ 1000000) (hfl : j.floats.length ≤ 1000000) (hr : Row w B 2 1 enc1 (.slice a 3 c) [x0, x1, x2]) :
    Calls Tryz.prog 29 #[.agg (stepL (jobL j.g j.bal iv nv fv) last ok).toArray, .int .i64 24, .slice a 3 c] w (AddEnd W { j with items := j.items ++ [⟨6, 0, 0, 0, 0, 0, (j.floats.length : Int)⟩], floats := j.floats ++ [⟨x0, x1, x2⟩] } w) := by
  obtain ⟨g, rfl, hg, -, hmc, hcm, hcell, gs, hgs⟩ := int_row hr (by simp)
  have d0 := hcell 0 x0 rfl
  have d1 := hcell 1 x1 rfl
  have d2 := hcell 2 x2 rfl
  obtain ⟨ia, ic, rfl, hsl⟩ := hJ.items.sl (fun _ => rfl)
  have hic := hsl.2.1
  have him := hsl.2.2.1
  obtain ⟨fa, fc, rfl, hsf⟩ := hJ.floats.sl (fun _ => rfl)
  have hfc := hsf.2.1
  have hfm := hsf.2.2.1
  unfold maxLen at him hfm
  have H19 := Lib.hid (stepL_19 (b := j.bal) (iv := .slice ia j.items.length ic) (nv := nv) (fv := .slice fa j.floats.length fc) hgl 1 (by omega) last ok)
  have H21 := Lib.hid (stepL_19 (b := j.bal) (iv := .slice ia j.items.length ic) (nv := nv) (fv := .slice fa j.floats.length fc) hgl 3 (by omega) last ok)
  have HJ := Lib.hid hJ
  have HGS := Lib.hid hgs
  have HN1 : Hid (nv.oneCell' = true) := Lib.hid (by obtain ⟨F, nts, h, _⟩ := hJ.notes; exact row_one h)
  obtain ⟨X, hX⟩ : ∃ X, stepL (jobL j.g j.bal (.slice ia j.items.length ic) nv (.slice fa j.floats.length fc)) last ok = X := ⟨_, rfl⟩
  rw [hX] at H19 H21 ⊢
  have HX := Lib.hid hX
  clear hX hr hcell hJ hsl hsf hgs
  go_enter Tryz.func29, Tryz.ntmps29
  go_wp2_with (first
    | (refine boxRowW (vs := X) rfl (.tmp 0) rfl rfl ?_; intro w1 hB hoth hkp hlt; have kw1 : Kp w w1 := hkp (Kp.refl w); have hg1 := Nat.lt_of_lt_of_le hg kw1.size; clear hoth hkp)
    | (refine stRowW (vs := manyL) rowMany rfl (.tmp 7) (.tmp 9) rfl (Blk.newL (cs := manyZ) (by simp) rfl) rfl rfl manyL_one rfl rfl ?_; intro wM hbM hothM hkpM hszM; have hBM := hothM (by omega) ((hB.alloc _).alloc _); have hRM := hothM (b' := w1.heap.size) (cs := stepZ) (t' := 54) (by omega) (Blk.alloc (Blk.newL rfl rfl) _); have k1M : Kp w1 wM := hkpM (Nat.le_succ _) (show Kp w1 _ from (by (repeat (first | with_reducible assumption | with_reducible exact Kp.refl _ | with_reducible refine Kp.drew ?_ | with_reducible refine Kp.drewN ?_ _ | with_reducible refine Kp.alloc ?_ _ | ((with_reducible refine Kp.setCell ?_ ?_ _); rotate_left; (focus (first | omega | (simp; done) | (simp; omega)))) | with_reducible refine Kp.trans ?_ (by assumption))))); have m24 := hbM.cell 24 rfl; have hgM := Nat.lt_of_lt_of_le hg1 k1M.size; have kwM : Kp w wM := kw1.trans k1M; have c21 := hBM.cell 21 (H21.out.trans rfl); have hBl := hBM.lt; clear hothM hkpM hszM))
  refine named_world (F := fun w8 => Blk w8 wM.heap.size (Itm.cells ⟨6, 0, 0, 0, 0, 0, (j.floats.length : Int)⟩) 43 ∧ Kp wM w8) ⟨Blk.newL rfl rfl, (Kp.refl wM).alloc _⟩ ?_
  rintro w8 ⟨hI, kM8⟩
  have kw8 : Kp w w8 := kwM.trans kM8
  have e0 := (kw8.cell (p := ⟨g, 0, none⟩) hg).trans d0
  have e1 := (kw8.cell (p := ⟨g, 1, none⟩) hg).trans d1
  have e2 := (kw8.cell (p := ⟨g, 2, none⟩) hg).trans d2
  have hg8 := Nat.lt_of_lt_of_le hg kw8.size
  have HB8 := Lib.hid (hBM.kp kM8)
  have HR8 := Lib.hid (hRM.kp kM8)
  have HI8 := Lib.hid hI
  have HJ8 := Lib.hid (HJ.out.move (TypedJ.kp kw8))
  have q21 := HB8.out.cell 21 (H21.out.trans rfl)
  have hbl8 := HB8.out.lt
  have HGi : Hid (∀ b, (Value.slice fa j.floats.length fc).ownBlock = some b → b ≠ g) := Lib.hid fun b hb e => by
    obtain ⟨e1, h1⟩ := HJ.out.floats.type hb
    rw [e, HGS.out] at h1
    cases h1
  have HFl : Hid (∀ b, (Value.slice fa j.floats.length fc).ownBlock = some b → b < w.heap.size) := Lib.hid fun b hb => (HJ.out.floats.lt b hb).2
  have HWs : Hid (W.heap.size ≤ w8.heap.size) := Lib.hid (Nat.le_trans kW.size kw8.size)
  have hgw : g ≠ w.heap.size := by omega
  clear hBM hRM hI d0 d1 d2 c21 kM8 kwM hbM m24 k1M hB
  (refine wp_region_held_drew (S := (fun w' => w8.heap.size ≤ w'.heap.size ∧ w'.cell? ⟨g, 0, none⟩ = some (.int .i64 x0) ∧ w'.cell? ⟨g, 1, none⟩ = some (.int .i64 x1) ∧ w'.cell? ⟨g, 2, none⟩ = some (.int .i64 x2))) (by kernel_rfl) ?_ (fun hHd => ?_); (focus ((try dsimp only); exact ⟨Nat.le_refl _, e0, e1, e2⟩)))
  (refine takeH (i := 0) (oi := ?o1) (v := ?v1) ?h1 (by kernel_rfl) ?q1 (Or.inl ⟨?w1, ?y1⟩) (by assumption) ?r1; (case h1 => ((simp only [g1, g3]); rfl)); (case q1 => exact fun _ _ _ h => h); (case w1 => rfl); (case y1 => (intro w' hSw; (try dsimp only at hSw); go_simp; (try with_reducible rfl))); (try simp only [Act.put, s1, s2, s3]))
  (refine takeH (i := 1) (oi := ?o2) (v := ?v2) ?h2 (by kernel_rfl) ?q2 (Or.inl ⟨?w2, ?y2⟩) (by assumption) ?r2; (case h2 => ((simp only [g1, g2, g3]); rfl)); (case q2 => exact fun _ _ _ h => h); (case w2 => rfl); (case y2 => (intro w' hSw; (try dsimp only at hSw); go_simp; (try with_reducible rfl))); (try simp only [Act.put, s1, s2, s3]))
  (refine takeH (i := 3) (oi := ?o3) (v := ?v3) ?h3 (by kernel_rfl) ?q3 (Or.inl ⟨?w3, ?y3⟩) (by assumption) ?r3; (case h3 => ((simp only [g1, g2, g3]); rfl)); (case q3 => exact fun _ _ _ h => h); (case w3 => rfl); (case y3 => (intro w' hSw; (try dsimp only at hSw); go_simp; (try with_reducible rfl))); (try simp only [Act.put, s1, s2, s3]))
  (refine takeH (i := 4) (oi := ?o4) (v := ?v4) ?h4 (by kernel_rfl) ?q4 (Or.inl ⟨?w4, ?y4⟩) (by assumption) ?r4; (case h4 => ((simp only [g1, g2, g3]); rfl)); (case q4 => exact fun _ _ _ h => h); (case w4 => rfl); (case y4 => (intro w' hSw; (try dsimp only at hSw); go_simp; (try with_reducible rfl))); (try simp only [Act.put, s1, s2, s3]))
  (refine takeH (i := 5) (oi := ?o5) (v := ?v5) ?h5 (by kernel_rfl) ?q5 (Or.inl ⟨?w5, ?y5⟩) (by assumption) ?r5; (case h5 => ((simp only [g1, g2, g3]); rfl)); (case q5 => exact fun _ _ _ h => h); (case w5 => rfl); (case y5 => (intro w' hSw; (try dsimp only at hSw); go_simp; (try with_reducible rfl))); (try simp only [Act.put, s1, s2, s3]))
  (refine takeH (i := 6) (oi := ?o6) (v := ?v6) ?h6 (by kernel_rfl) ?q6 (Or.inl ⟨?w6, ?y6⟩) (by assumption) ?r6; (case h6 => ((simp only [g1, g2, g3]); rfl)); (case q6 => exact fun _ _ _ h => h); (case w6 => rfl); (case y6 => (intro w' hSw; (try dsimp only at hSw); go_simp; (try with_reducible rfl))); (try simp only [Act.put, s1, s2, s3]))
  (refine takeH (i := 7) (oi := ?o7) (v := ?v7) ?h7 (by kernel_rfl) ?q7 (Or.inl ⟨?w7, ?y7⟩) (by assumption) ?r7; (case h7 => ((simp only [g1, g2, g3]); rfl)); (case q7 => exact fun _ _ _ h => h); (case w7 => rfl); (case y7 => (intro w' hSw; (try dsimp only at hSw); go_simp; (try with_reducible rfl))); (try simp only [Act.put, s1, s2, s3]))
  (refine takeH (i := 8) (oi := ?o8) (v := ?v8) ?h8 (by kernel_rfl) ?q8 (Or.inl ⟨?w8, ?y8⟩) (by assumption) ?r8; (case h8 => ((simp only [g1, g2, g3]); rfl)); (case q8 => exact fun _ _ _ h => h); (case w8 => rfl); (case y8 => (intro w' hSw; (try dsimp only at hSw); go_simp; (try with_reducible rfl))); (try simp only [Act.put, s1, s2, s3]))
  (refine takeH (i := 9) (oi := ?o9) (v := ?v9) ?h9 (by kernel_rfl) ?q9 (Or.inl ⟨?w9, ?y9⟩) (by assumption) ?r9; (case h9 => ((simp only [g1, g2, g3]); rfl)); (case q9 => exact fun _ _ _ h => h); (case w9 => rfl); (case y9 => (intro w' hSw; (try dsimp only at hSw); go_simp; (try with_reducible rfl))); (try simp only [Act.put, s1, s2, s3]))
  (refine takeH (i := 10) (oi := ?o10) (v := ?v10) ?h10 (by kernel_rfl) ?q10 (Or.inl ⟨?w10, ?y10⟩) (by assumption) ?r10; (case h10 => ((simp only [g1, g2, g3]); rfl)); (case q10 => exact fun _ _ _ h => h); (case w10 => rfl); (case y10 => (intro w' hSw; (try dsimp only at hSw); go_simp; (try with_reducible rfl))); (try simp only [Act.put, s1, s2, s3]))
  (refine takeH (i := 11) (oi := ?o11) (v := ?v11) ?h11 (by kernel_rfl) ?q11 (Or.inl ⟨?w11, ?y11⟩) (by assumption) ?r11; (case h11 => ((simp only [g1, g2, g3]); rfl)); (case q11 => exact fun _ _ _ h => h); (case w11 => rfl); (case y11 => (intro w' hSw; (try dsimp only at hSw); go_simp; (try with_reducible rfl))); (try simp only [Act.put, s1, s2, s3]))
  (refine takeH (i := 12) (oi := ?o12) (v := ?v12) ?h12 (by kernel_rfl) ?q12 (Or.inl ⟨?w12, ?y12⟩) (by assumption) ?r12; (case h12 => ((simp only [g1, g2, g3]); rfl)); (case q12 => exact fun _ _ _ h => h); (case w12 => rfl); (case y12 => (intro w' hSw; (try dsimp only at hSw); go_simp; (try with_reducible rfl))); (try simp only [Act.put, s1, s2, s3]))
  (refine wpAnyH_ready (rs := [2, 13]) (by kernel_rfl) (by simp) ?_; refine (AllReadyH.cons (o := ?o13) ?h13 (fun K hK => ?s13) (AllReadyH.cons (o := ?o14) ?h14 (fun K hK => ?s14) AllReadyH.nil)); (case h13 => (first | ((simp only [g1, g2, g3]); rfl) | rfl)); (case h14 => (first | ((simp only [g1, g2, g3]); rfl) | rfl)))
  (go_simp; (try dsimp only); refine hK.out _ _ ?_ (fun hHd => ?_); (focus ((try dsimp only); exact hHd)); clear hK K; (try simp only [Act.put, s1, s2, s3]))
  (refine wpAnyH_ready (rs := [13]) (by kernel_rfl) (by simp) ?_; refine AllReadyH.cons (o := ?o15) ?h15 (fun K hK => ?s15) AllReadyH.nil; (case h15 => (first | ((simp only [g1, g2, g3]); rfl) | rfl)); go_simp; (try dsimp only); refine hK.out _ _ ?_ (fun hHd => ?_); (focus ((try dsimp only); exact ⟨(show Kp w8 _ from (by (repeat (first | with_reducible assumption | with_reducible exact Kp.refl _ | with_reducible refine Kp.drew ?_ | with_reducible refine Kp.drewN ?_ _ | with_reducible refine Kp.alloc ?_ _ | ((with_reducible refine Kp.setCell ?_ ?_ _); rotate_left; (focus (first | omega | (simp; done) | (simp; omega)))) | with_reducible refine Kp.trans ?_ (by assumption))))).size, ((show Kp w8 _ from (by (repeat (first | with_reducible assumption | with_reducible exact Kp.refl _ | with_reducible refine Kp.drew ?_ | with_reducible refine Kp.drewN ?_ _ | with_reducible refine Kp.alloc ?_ _ | ((with_reducible refine Kp.setCell ?_ ?_ _); rotate_left; (focus (first | omega | (simp; done) | (simp; omega)))) | with_reducible refine Kp.trans ?_ (by assumption))))).cell (p := ⟨g, 0, none⟩) hg8).trans e0, ((show Kp w8 _ from (by (repeat (first | with_reducible assumption | with_reducible exact Kp.refl _ | with_reducible refine Kp.drew ?_ | with_reducible refine Kp.drewN ?_ _ | with_reducible refine Kp.alloc ?_ _ | ((with_reducible refine Kp.setCell ?_ ?_ _); rotate_left; (focus (first | omega | (simp; done) | (simp; omega)))) | with_reducible refine Kp.trans ?_ (by assumption))))).cell (p := ⟨g, 1, none⟩) hg8).trans e1, ((show Kp w8 _ from (by (repeat (first | with_reducible assumption | with_reducible exact Kp.refl _ | with_reducible refine Kp.drew ?_ | with_reducible refine Kp.drewN ?_ _ | with_reducible refine Kp.alloc ?_ _ | ((with_reducible refine Kp.setCell ?_ ?_ _); rotate_left; (focus (first | omega | (simp; done) | (simp; omega)))) | with_reducible refine Kp.trans ?_ (by assumption))))).cell (p := ⟨g, 2, none⟩) hg8).trans e2⟩)); clear hK K; (try simp only [Act.put, s1, s2, s3]))
  (refine wpAnyH_ready (rs := [14]) (by kernel_rfl) (by simp) ?_; refine AllReadyH.cons (o := ?o16) ?h16 (fun K hK => ?s16) AllReadyH.nil; (case h16 => (first | ((simp only [g1, g2, g3]); rfl) | rfl)); (refine rowAppendX (.tmp 93) (.tmp 104) 28 ?ho17 Tryz.underlying28 infoFlt rfl (by decide) (HJ8.out.floats.kp (show Kp w8 _ from (by (repeat (first | with_reducible assumption | with_reducible exact Kp.refl _ | with_reducible refine Kp.drew ?_ | with_reducible refine Kp.drewN ?_ _ | with_reducible refine Kp.alloc ?_ _ | ((with_reducible refine Kp.setCell ?_ ?_ _); rotate_left; (focus (first | omega | (simp; done) | (simp; omega)))) | with_reducible refine Kp.trans ?_ (by assumption)))))) ?hs17 (y := (⟨x0, x1, x2⟩ : Flt)) rfl (fltOne _) (show Blk _ w8.heap.size (Flt.cells ⟨x0, x1, x2⟩) 91 from (by (repeat (first | with_reducible assumption | ((with_reducible refine Blk.newL ?_ ?_); (focus (first | (simp; done) | omega)); rfl) | with_reducible refine Blk.drew ?_ | with_reducible refine Blk.drewN ?_ _ | with_reducible refine Blk.alloc ?_ _ | ((with_reducible refine Blk.other ?_ ?_ _); rotate_left; (focus (first | with_reducible assumption | omega | (simp; done) | (simp; omega)))))))) ?hx17 ?hl17 ?hb17 ?hz17 ?_; (case ho17 => rfl); (case hs17 => rfl); (case hx17 => rfl); (case hl17 => unfold maxLen; omega); (case hb17 => omega); (case hz17 => exact Nat.le_trans HWs.out (show Kp w8 _ from (by (repeat (first | with_reducible assumption | with_reducible exact Kp.refl _ | with_reducible refine Kp.drew ?_ | with_reducible refine Kp.drewN ?_ _ | with_reducible refine Kp.alloc ?_ _ | ((with_reducible refine Kp.setCell ?_ ?_ _); rotate_left; (focus (first | omega | (simp; done) | (simp; omega)))) | with_reducible refine Kp.trans ?_ (by assumption))))).size); intro v' w9 hr' hgb hloc; obtain ⟨a6, c6, rfl, _⟩ := hr'.sl (fun _ => rfl); have hg9 : w8.grownBy w9 (Value.slice fa j.floats.length fc).ownBlock := grown_trans (show Kp w8 _ from (by (repeat (first | with_reducible assumption | with_reducible exact Kp.refl _ | with_reducible refine Kp.drew ?_ | with_reducible refine Kp.drewN ?_ _ | with_reducible refine Kp.alloc ?_ _ | ((with_reducible refine Kp.setCell ?_ ?_ _); rotate_left; (focus (first | omega | (simp; done) | (simp; omega)))) | with_reducible refine Kp.trans ?_ (by assumption))))).grownBy hgb; have hgs := hg9.size; have hkg : w9.heap[g]? = w8.heap[g]? := hg9.block _ hg8 (fun e => HGi.out _ e.symm rfl); have hB9 := HB8.out.grown1 hg9 (fun e => by have := HFl.out _ e; omega); have g21 := hB9.cell 21 (H21.out.trans rfl); have gf21 := hB9.free 21); refine hK.out _ _ ?_ (fun hHd => ?_); (focus ((try dsimp only); exact ⟨hgs, (cell_heap hkg _).trans e0, (cell_heap hkg _).trans e1, (cell_heap hkg _).trans e2⟩)); clear hK K; (try simp only [Act.put]))
  (refine takeH (i := 15) (oi := ?o18) (v := ?v18) ?h18 (by kernel_rfl) ?q18 (Or.inl ⟨?w18, ?y18⟩) (by assumption) ?r18; (case h18 => ((simp only [g1, g2, g3]); rfl)); (case q18 => exact fun _ _ _ h => h); (case w18 => rfl); (case y18 => (intro w' hSw; (try dsimp only at hSw); go_simp; (try with_reducible rfl))); (try simp only [Act.put, s1, s2, s3]))
  (refine takeH (i := 16) (oi := ?o19) (v := ?v19) ?h19 (by kernel_rfl) ?q19 (Or.inl ⟨?w19, ?y19⟩) (by assumption) ?r19; (case h19 => ((simp only [g1, g2, g3]); rfl)); (case q19 => exact fun _ _ _ h => h); (case w19 => rfl); (case y19 => (intro w' hSw; (try dsimp only at hSw); go_simp; (try with_reducible rfl))); (try simp only [Act.put, s1, s2, s3]))
  (refine wpAnyH_ready (rs := [17]) (by kernel_rfl) (by simp) ?_; refine AllReadyH.cons (o := ?o20) ?h20 (fun K hK => ?s20) AllReadyH.nil; (case h20 => (first | ((simp only [g1, g2, g3]); rfl) | rfl)); go_simp; (try dsimp only); refine hK.out _ _ ?_ (fun hHd => ?_); (focus ((try dsimp only); exact ⟨by simpa using hgs, (cell_heap (Below.heap_setCell _ _ _ _ hgw) _).trans ((cell_heap hkg _).trans e0), (cell_heap (Below.heap_setCell _ _ _ _ hgw) _).trans ((cell_heap hkg _).trans e1), (cell_heap (Below.heap_setCell _ _ _ _ hgw) _).trans ((cell_heap hkg _).trans e2)⟩)); clear hK K; (try simp only [Act.put, s1, s2, s3]))
  refine wpAnyH_done (by kernel_rfl) ?_ _
  rotate_left
  (go_simp; (try dsimp only); refine hK.out _ _ ?_ (fun hHd => ?_); (focus ((try dsimp only); exact ⟨(show Kp w8 _ from (by (repeat (first | with_reducible assumption | with_reducible exact Kp.refl _ | with_reducible refine Kp.drew ?_ | with_reducible refine Kp.drewN ?_ _ | with_reducible refine Kp.alloc ?_ _ | ((with_reducible refine Kp.setCell ?_ ?_ _); rotate_left; (focus (first | omega | (simp; done) | (simp; omega)))) | with_reducible refine Kp.trans ?_ (by assumption))))).size, ((show Kp w8 _ from (by (repeat (first | with_reducible assumption | with_reducible exact Kp.refl _ | with_reducible refine Kp.drew ?_ | with_reducible refine Kp.drewN ?_ _ | with_reducible refine Kp.alloc ?_ _ | ((with_reducible refine Kp.setCell ?_ ?_ _); rotate_left; (focus (first | omega | (simp; done) | (simp; omega)))) | with_reducible refine Kp.trans ?_ (by assumption))))).cell (p := ⟨g, 0, none⟩) hg8).trans e0, ((show Kp w8 _ from (by (repeat (first | with_reducible assumption | with_reducible exact Kp.refl _ | with_reducible refine Kp.drew ?_ | with_reducible refine Kp.drewN ?_ _ | with_reducible refine Kp.alloc ?_ _ | ((with_reducible refine Kp.setCell ?_ ?_ _); rotate_left; (focus (first | omega | (simp; done) | (simp; omega)))) | with_reducible refine Kp.trans ?_ (by assumption))))).cell (p := ⟨g, 1, none⟩) hg8).trans e1, ((show Kp w8 _ from (by (repeat (first | with_reducible assumption | with_reducible exact Kp.refl _ | with_reducible refine Kp.drew ?_ | with_reducible refine Kp.drewN ?_ _ | with_reducible refine Kp.alloc ?_ _ | ((with_reducible refine Kp.setCell ?_ ?_ _); rotate_left; (focus (first | omega | (simp; done) | (simp; omega)))) | with_reducible refine Kp.trans ?_ (by assumption))))).cell (p := ⟨g, 2, none⟩) hg8).trans e2⟩)); clear hK K; (try simp only [Act.put, s1, s2, s3]))
  (refine wpAnyH_ready (rs := [2]) (by kernel_rfl) (by simp) ?_; refine AllReadyH.cons (o := ?o21) ?h21 (fun K hK => ?s21) AllReadyH.nil; (case h21 => (first | ((simp only [g1, g2, g3]); rfl) | rfl)); go_simp; (try dsimp only); refine hK.out _ _ ?_ (fun hHd => ?_); (focus ((try dsimp only); exact hHd)); clear hK K; (try simp only [Act.put, s1, s2, s3]))
  (refine wpAnyH_ready (rs := [14]) (by kernel_rfl) (by simp) ?_; refine AllReadyH.cons (o := ?o22) ?h22 (fun K hK => ?s22) AllReadyH.nil; (case h22 => (first | ((simp only [g1, g2, g3]); rfl) | rfl)); (refine rowAppendX (.tmp 93) (.tmp 104) 28 ?ho23 Tryz.underlying28 infoFlt rfl (by decide) (HJ8.out.floats.kp (show Kp w8 _ from (by (repeat (first | with_reducible assumption | with_reducible exact Kp.refl _ | with_reducible refine Kp.drew ?_ | with_reducible refine Kp.drewN ?_ _ | with_reducible refine Kp.alloc ?_ _ | ((with_reducible refine Kp.setCell ?_ ?_ _); rotate_left; (focus (first | omega | (simp; done) | (simp; omega)))) | with_reducible refine Kp.trans ?_ (by assumption)))))) ?hs23 (y := (⟨x0, x1, x2⟩ : Flt)) rfl (fltOne _) (show Blk _ w8.heap.size (Flt.cells ⟨x0, x1, x2⟩) 91 from (by (repeat (first | with_reducible assumption | ((with_reducible refine Blk.newL ?_ ?_); (focus (first | (simp; done) | omega)); rfl) | with_reducible refine Blk.drew ?_ | with_reducible refine Blk.drewN ?_ _ | with_reducible refine Blk.alloc ?_ _ | ((with_reducible refine Blk.other ?_ ?_ _); rotate_left; (focus (first | with_reducible assumption | omega | (simp; done) | (simp; omega)))))))) ?hx23 ?hl23 ?hb23 ?hz23 ?_; (case ho23 => rfl); (case hs23 => rfl); (case hx23 => rfl); (case hl23 => unfold maxLen; omega); (case hb23 => omega); (case hz23 => exact Nat.le_trans HWs.out (show Kp w8 _ from (by (repeat (first | with_reducible assumption | with_reducible exact Kp.refl _ | with_reducible refine Kp.drew ?_ | with_reducible refine Kp.drewN ?_ _ | with_reducible refine Kp.alloc ?_ _ | ((with_reducible refine Kp.setCell ?_ ?_ _); rotate_left; (focus (first | omega | (simp; done) | (simp; omega)))) | with_reducible refine Kp.trans ?_ (by assumption))))).size); intro v' w9 hr' hgb hloc; obtain ⟨a6, c6, rfl, _⟩ := hr'.sl (fun _ => rfl); have hg9 : w8.grownBy w9 (Value.slice fa j.floats.length fc).ownBlock := grown_trans (show Kp w8 _ from (by (repeat (first | with_reducible assumption | with_reducible exact Kp.refl _ | with_reducible refine Kp.drew ?_ | with_reducible refine Kp.drewN ?_ _ | with_reducible refine Kp.alloc ?_ _ | ((with_reducible refine Kp.setCell ?_ ?_ _); rotate_left; (focus (first | omega | (simp; done) | (simp; omega)))) | with_reducible refine Kp.trans ?_ (by assumption))))).grownBy hgb; have hgs := hg9.size; have hkg : w9.heap[g]? = w8.heap[g]? := hg9.block _ hg8 (fun e => HGi.out _ e.symm rfl); have hB9 := HB8.out.grown1 hg9 (fun e => by have := HFl.out _ e; omega); have g21 := hB9.cell 21 (H21.out.trans rfl); have gf21 := hB9.free 21); refine hK.out _ _ ?_ (fun hHd => ?_); (focus ((try dsimp only); exact ⟨hgs, (cell_heap hkg _).trans e0, (cell_heap hkg _).trans e1, (cell_heap hkg _).trans e2⟩)); clear hK K; (try simp only [Act.put]))
  (refine takeH (i := 15) (oi := ?o24) (v := ?v24) ?h24 (by kernel_rfl) ?q24 (Or.inl ⟨?w24, ?y24⟩) (by assumption) ?r24; (case h24 => ((simp only [g1, g2, g3]); rfl)); (case q24 => exact fun _ _ _ h => h); (case w24 => rfl); (case y24 => (intro w' hSw; (try dsimp only at hSw); go_simp; (try with_reducible rfl))); (try simp only [Act.put, s1, s2, s3]))
  (refine takeH (i := 16) (oi := ?o25) (v := ?v25) ?h25 (by kernel_rfl) ?q25 (Or.inl ⟨?w25, ?y25⟩) (by assumption) ?r25; (case h25 => ((simp only [g1, g2, g3]); rfl)); (case q25 => exact fun _ _ _ h => h); (case w25 => rfl); (case y25 => (intro w' hSw; (try dsimp only at hSw); go_simp; (try with_reducible rfl))); (try simp only [Act.put, s1, s2, s3]))
  (refine wpAnyH_ready (rs := [17]) (by kernel_rfl) (by simp) ?_; refine AllReadyH.cons (o := ?o26) ?h26 (fun K hK => ?s26) AllReadyH.nil; (case h26 => (first | ((simp only [g1, g2, g3]); rfl) | rfl)); go_simp; (try dsimp only); refine hK.out _ _ ?_ (fun hHd => ?_); (focus ((try dsimp only); exact ⟨by simpa using hgs, (cell_heap (Below.heap_setCell _ _ _ _ hgw) _).trans ((cell_heap hkg _).trans e0), (cell_heap (Below.heap_setCell _ _ _ _ hgw) _).trans ((cell_heap hkg _).trans e1), (cell_heap (Below.heap_setCell _ _ _ _ hgw) _).trans ((cell_heap hkg _).trans e2)⟩)); clear hK K; (try simp only [Act.put, s1, s2, s3]))
  refine wpAnyH_done (by kernel_rfl) ?_ _
  rotate_left
  all_goals
    have hlf : (j.floats ++ [(⟨x0, x1, x2⟩ : Flt)]).length = j.floats.length + 1 := by simp
    rw [hlf] at hr'
    have hJ9 := HJ8.out.float hr' hg9
    have hB10 := hB9.set 21 (.slice a6 (j.floats.length + 1) c6)
    rw [← HX.out, step_set21 hgl] at hB10
    have hJ10 := hJ9.move (TypedJ.away hB9 notJt_step 21 (.slice a6 (j.floats.length + 1) c6))
    have hR10 := (HR8.out.grown1 hg9 (fun e => by have := HFl.out _ e; omega)).other (a := ⟨w.heap.size, 21, none⟩) (by show w1.heap.size ≠ w.heap.size; omega) (.slice a6 (j.floats.length + 1) c6)
    have hwM : w.heap.size < wM.heap.size := hBl
    have hI10 := (HI8.out.grown1 hg9 (fun e => by have := HFl.out _ e; omega)).other (a := ⟨w.heap.size, 21, none⟩) (by show wM.heap.size ≠ w.heap.size; omega) (.slice a6 (j.floats.length + 1) c6)
    have hK10 := (((KeepJ.refl w.heap.size kW).kp kw8).grown HJ8.out.floats (Nat.le_refl _) (.inr (.inr (.inl rfl))) hg9).set kW.size 21 (.slice a6 (j.floats.length + 1) c6)
    clear hHd hr' hgb hloc hg9 hgs hkg hB9 g21 gf21 hJ9 hlf e0 e1 e2 q21
    generalize w9.setCell ⟨w.heap.size, 21, none⟩ (.slice a6 (j.floats.length + 1) c6) = w10 at hJ10 hB10 hR10 hI10 hK10 ⊢
    have c19 := hB10.cell 19 (v := .slice ia j.items.length ic) ((stepL_19 hgl 1 (by omega) last ok).trans rfl)
    have f19 := hB10.free 19
    have hl10 := hB10.lt
    have i0 := hI10.cell 0 rfl
    have i1 := hI10.cell 1 rfl
    have i2 := hI10.cell 2 rfl
    have i3 := hI10.cell 3 rfl
    have i4 := hI10.cell 4 rfl
    have i5 := hI10.cell 5 rfl
    have i6 := hI10.cell 6 rfl
    have hil := hI10.lt
    have HB10 := Lib.hid hB10
    have HR10 := Lib.hid hR10
    have HJ10 := Lib.hid hJ10
    have HK10 := Lib.hid hK10
    have HWz : Hid (W.heap.size ≤ w10.heap.size) := Lib.hid hK10.1.size
    have HOi : Hid (∀ b, (Value.slice ia j.items.length ic).ownBlock = some b → b ≠ w.heap.size ∧ b ≠ w1.heap.size) := Lib.hid fun b hb => by
      refine ⟨fun e => ?_, fun e => ?_⟩
      · obtain ⟨e1, h1⟩ := HJ10.out.items.type hb
        rw [e, HB10.out.heap] at h1
        cases h1
      · obtain ⟨e1, h1⟩ := HJ10.out.items.type hb
        rw [e, HR10.out.heap] at h1
        cases h1
    clear hB10 hR10 hJ10 hK10 hI10
    go_wp2_with (first
      | (at_builtin; go_loud (refine rowAppendXL ?gd (.tmp 113) (.tmp 115) 26 ?ho Tryz.underlying26 infoItm rfl (by decide) (HJ10.out.items.kp (show Kp w10 _ from (by (repeat (first | with_reducible assumption | with_reducible exact Kp.refl _ | with_reducible refine Kp.drew ?_ | with_reducible refine Kp.drewN ?_ _ | with_reducible refine Kp.alloc ?_ _ | ((with_reducible refine Kp.setCell ?_ ?_ _); rotate_left; (focus (first | omega | (simp; done) | (simp; omega)))) | with_reducible refine Kp.trans ?_ (by assumption)))))) ?hs (y := (⟨6, 0, 0, 0, 0, 0, (j.floats.length : Int)⟩ : Itm)) rfl (itmOne _) (show Blk _ w10.heap.size (Itm.cells ⟨6, 0, 0, 0, 0, 0, (j.floats.length : Int)⟩) 43 from (by (repeat (first | with_reducible assumption | ((with_reducible refine Blk.newL ?_ ?_); (focus (first | (simp; done) | omega)); rfl) | with_reducible refine Blk.drew ?_ | with_reducible refine Blk.drewN ?_ _ | with_reducible refine Blk.alloc ?_ _ | ((with_reducible refine Blk.other ?_ ?_ _); rotate_left; (focus (first | with_reducible assumption | omega | (simp; done) | (simp; omega)))))))) ?hx ?hl ?hb ?hz ?_; (case gd => rfl); (case ho => rfl); (case hs => rfl); (case hx => rfl); (case hl => show j.items.length + 1 ≤ maxLen; unfold maxLen; omega); (case hb => show (j.items.length + 1) * _ ≤ _; omega); (case hz => exact Nat.le_trans HWz.out (show Kp w10 _ from (by (repeat (first | with_reducible assumption | with_reducible exact Kp.refl _ | with_reducible refine Kp.drew ?_ | with_reducible refine Kp.drewN ?_ _ | with_reducible refine Kp.alloc ?_ _ | ((with_reducible refine Kp.setCell ?_ ?_ _); rotate_left; (focus (first | omega | (simp; done) | (simp; omega)))) | with_reducible refine Kp.trans ?_ (by assumption))))).size); intro v' w5 hr5 hgb hl5; obtain ⟨a5, c5, rfl, _⟩ := hr5.sl (fun _ => rfl); have hg5 : w10.grownBy w5 (Value.slice ia j.items.length ic).ownBlock := grown_trans (show Kp w10 _ from (by (repeat (first | with_reducible assumption | with_reducible exact Kp.refl _ | with_reducible refine Kp.drew ?_ | with_reducible refine Kp.drewN ?_ _ | with_reducible refine Kp.alloc ?_ _ | ((with_reducible refine Kp.setCell ?_ ?_ _); rotate_left; (focus (first | omega | (simp; done) | (simp; omega)))) | with_reducible refine Kp.trans ?_ (by assumption))))).grownBy hgb; have hB5 := HB10.out.grown1 hg5 (fun e => (HOi.out _ e).1 rfl); have hR5 := HR10.out.grown1 hg5 (fun e => (HOi.out _ e).2 rfl); have gf19 := hB5.free 19; have g19 := hB5.cell 19 (v := .slice ia j.items.length ic) ((stepL_19 hgl 1 (by omega) last ok).trans rfl); have hB6 := hB5.set 19 (.slice a5 (j.items.length + 1) c5); rw [step_set19 hgl] at hB6))
      | (refine ldRowAt rowJob rfl (.tmp 119) rfl (vs := jobL j.g j.bal (.slice a5 (j.items.length + 1) c5) nv (.slice a6 (j.floats.length + 1) c6)) (stepL_range hB6) (jobL_len hgl) rfl ?_)
      | (refine bdRow3 rfl 54 0 (.tmp 120) 1 (.const (.int .i64 19)) 2 (.const (.bool true)) rfl rfl rfl rfl (built_step (jobL_len hgl) 19 true) ?_)
      | (refine stRowW rowStep rfl (.tmp 6) (.tmp 121) rfl (hR5.other (a := ⟨w.heap.size, 19, none⟩) (by show w1.heap.size ≠ w.heap.size; omega) _) stepZ_len (stepL_len (jobL_len hgl) 19 true) (stepL_one (jobL_one rfl HN1.out rfl) 19 true) rfl rfl ?_; intro w7 hb7 hoth7 hkp7 hsz7))
    refine bodyPost_ret (ret_cellRow rowStep Tryz.results29 (stepL_len (jobL_len hgl) 19 true) rfl hb7) rfl ?_
    have hl5' : (j.items ++ [(⟨6, 0, 0, 0, 0, 0, (j.floats.length : Int)⟩ : Itm)]).length = j.items.length + 1 := by simp
    simp only [hl5'] at hr5
    have hJ5 := HJ10.out.item hr5 hg5
    have hJ6 := hJ5.move (TypedJ.away hB5 notJt_step 19 (.slice a5 (j.items.length + 1) c5))
    have hJ7 := hJ6.move (typedJ_others (hR5.other (a := ⟨w.heap.size, 19, none⟩) (by show w1.heap.size ≠ w.heap.size; omega) _) notJt_step hoth7 hsz7)
    have hK5 := HK10.out.grown HJ10.out.items (Nat.le_refl _) (.inl rfl) hg5
    exact ⟨(hK5.set kW.size 19 _).newStore (Nat.le_of_lt hlt) kW.size hoth7 hkp7 hsz7, _, _, _, rfl, hJ7⟩
end Go.Proofs.YtaekeogaakogbaaGreatDoor
