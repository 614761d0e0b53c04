/- The document's items (tympanref43.add): plain kinds. Printed by wip/g43f.py. -/
import Derived.Test.YtaekeogaakogbaaGreatDoorK10

namespace Go.Proofs.YtaekeogaakogbaaGreatDoor

open Go.ChangeShapes Go.WideShapes Go.ChangeAt Go.RowKit Go.Shelf

theorem rowItm : RowT 43 7 := ⟨⟨_, Tryz.underlying43, rfl⟩, by kernel_rfl⟩
set_option maxRecDepth 100000 in
set_option maxHeartbeats 8000000 in
theorem add43_box (W : World) (j : JobD) (hgl : j.g.length = 18) (iv nv fv : Value) (last : Int) (ok : Bool) (x0 x1 : Int) (B : Nat) (a : Option Addr) (c : Nat) (w : World) (kW : Kp W w) (hJ : JRep w W.heap.size iv nv fv j) (hl : j.items.length ≤ 1000000) (hr : Row w B 2 1 enc1 (.slice a 2 c) [x0, x1]) :
    Calls Tryz.prog 29 #[.agg (stepL (jobL j.g j.bal iv nv fv) last ok).toArray, .int .i64 19, .slice a 2 c] w (AddEnd W { j with items := j.items ++ [⟨1, x0, x1, 0, 0, 0, 0⟩] } w) := by
  obtain ⟨g, rfl, hg, -, hmc, hcm, hcell, -⟩ := int_row hr (by simp)
  have d0 := hcell 0 x0 rfl
  have d1 := hcell 1 x1 rfl
  obtain ⟨ia, ic, rfl, hsl⟩ := hJ.items.sl (fun _ => rfl)
  have hic := hsl.2.1
  have him := hsl.2.2.1
  unfold maxLen at him
  have H19 := Lib.hid (stepL_19 (b := j.bal) (iv := .slice ia j.items.length ic) (nv := nv) (fv := fv) hgl 1 (by omega) last ok)
  have HJ := Lib.hid hJ
  have HN1 : Hid (nv.oneCell' = true) := Lib.hid (by obtain ⟨F, nts, h, _⟩ := hJ.notes; exact row_one h)
  have HF1 : Hid (fv.oneCell' = true) := Lib.hid (row_one hJ.floats)
  obtain ⟨X, hX⟩ : ∃ X, stepL (jobL j.g j.bal (.slice ia j.items.length ic) nv fv) last ok = X := ⟨_, rfl⟩
  rw [hX] at H19 ⊢
  have HX := Lib.hid hX
  clear hX hr hcell hJ hsl
  go_enter Tryz.func29, Tryz.ntmps29
  go_wp2_with (first
    | (refine boxRowW (vs := X) rfl (.tmp 0) rfl rfl ?_; intro w1 hB hoth hkp hlt; have kw1 : Kp w w1 := hkp (Kp.refl w); have e0 := (kw1.cell (p := ⟨g, 0, none⟩) hg).trans d0; have e1 := (kw1.cell (p := ⟨g, 1, none⟩) hg).trans d1; have hg1 := Nat.lt_of_lt_of_le hg kw1.size; clear hoth hkp d0 d1)
    | (refine stRowW (vs := manyL) rowMany rfl (.tmp 7) (.tmp 9) rfl (Blk.newL (cs := manyZ) (by simp) rfl) rfl rfl manyL_one rfl rfl ?_; intro wM hbM hothM hkpM hszM; have hBM := hothM (by omega) ((hB.alloc _).alloc _); have hRM := hothM (b' := w1.heap.size) (cs := stepZ) (t' := 54) (by omega) (Blk.alloc (Blk.newL rfl rfl) _); have k1M : Kp w1 wM := hkpM (Nat.le_succ _) (show Kp w1 _ from (by (repeat (first | with_reducible assumption | with_reducible exact Kp.refl _ | with_reducible refine Kp.drew ?_ | with_reducible refine Kp.drewN ?_ _ | with_reducible refine Kp.alloc ?_ _ | ((with_reducible refine Kp.setCell ?_ ?_ _); rotate_left; (focus (first | omega | (simp; done) | (simp; omega)))) | with_reducible refine Kp.trans ?_ (by assumption))))); have mat := hbM.cell 19 rfl; have eM0 := (k1M.cell (p := ⟨g, 0, none⟩) hg1).trans e0; have eM1 := (k1M.cell (p := ⟨g, 1, none⟩) hg1).trans e1; have hgM := Nat.lt_of_lt_of_le hg1 k1M.size; have kwM : Kp w wM := kw1.trans k1M; have c19 := hBM.cell 19 (H19.out.trans rfl); have f19 := hBM.free 19; have hBl := hBM.lt; clear hothM hkpM hszM e0 e1))
  refine named_world (F := fun w8 => Blk w8 wM.heap.size [.int .i64 0, .int .i64 0, .int .i64 0, .int .i64 0, .int .i64 0, .int .i64 0, .int .i64 0] 43 ∧ Kp wM w8) ⟨Blk.newL rfl rfl, (Kp.refl wM).alloc _⟩ ?_
  rintro w8 ⟨hI, kM8⟩
  have e0 := (kM8.cell (p := ⟨g, 0, none⟩) hgM).trans eM0
  have e1 := (kM8.cell (p := ⟨g, 1, none⟩) hgM).trans eM1
  (refine wp_region_held_drew (S := (fun w' => w'.cell? ⟨g, 0, none⟩ = some (.int .i64 x0) ∧ w'.cell? ⟨g, 1, none⟩ = some (.int .i64 x1))) (by kernel_rfl) ?_ (fun hHd => ?_); (focus ((try dsimp only); exact ⟨e0, e1⟩)))
  (refine takeH (i := 0) (oi := ?o239) (v := ?v239) ?h239 (by kernel_rfl) ?q239 (Or.inl ⟨?w239, ?y239⟩) (by assumption) ?r239; (case h239 => ((simp only [g1, g3]); rfl)); (case q239 => exact fun _ _ _ h => h); (case w239 => rfl); (case y239 => (intro w' hSw; (try dsimp only at hSw); go_simp; (try with_reducible rfl))); (try simp only [Act.put, s1, s2, s3]))
  (refine takeH (i := 1) (oi := ?o240) (v := ?v240) ?h240 (by kernel_rfl) ?q240 (Or.inl ⟨?w240, ?y240⟩) (by assumption) ?r240; (case h240 => ((simp only [g1, g2, g3]); rfl)); (case q240 => exact fun _ _ _ h => h); (case w240 => rfl); (case y240 => (intro w' hSw; (try dsimp only at hSw); go_simp; (try with_reducible rfl))); (try simp only [Act.put, s1, s2, s3]))
  (refine takeH (i := 2) (oi := ?o241) (v := ?v241) ?h241 (by kernel_rfl) ?q241 (Or.inl ⟨?w241, ?y241⟩) (by assumption) ?r241; (case h241 => ((simp only [g1, g2, g3]); rfl)); (case q241 => exact fun _ _ _ h => h); (case w241 => rfl); (case y241 => (intro w' hSw; (try dsimp only at hSw); go_simp; (try with_reducible rfl))); (try simp only [Act.put, s1, s2, s3]))
  (refine takeH (i := 3) (oi := ?o242) (v := ?v242) ?h242 (by kernel_rfl) ?q242 (Or.inl ⟨?w242, ?y242⟩) (by assumption) ?r242; (case h242 => ((simp only [g1, g2, g3]); rfl)); (case q242 => exact fun _ _ _ h => h); (case w242 => rfl); (case y242 => (intro w' hSw; (try dsimp only at hSw); go_simp; (try with_reducible rfl))); (try simp only [Act.put, s1, s2, s3]))
  (refine takeH (i := 4) (oi := ?o243) (v := ?v243) ?h243 (by kernel_rfl) ?q243 (Or.inl ⟨?w243, ?y243⟩) (by assumption) ?r243; (case h243 => ((simp only [g1, g2, g3]); rfl)); (case q243 => exact fun _ _ _ h => h); (case w243 => rfl); (case y243 => (intro w' hSw; (try dsimp only at hSw); go_simp; (try with_reducible rfl))); (try simp only [Act.put, s1, s2, s3]))
  (refine takeH (i := 5) (oi := ?o244) (v := ?v244) ?h244 (by kernel_rfl) ?q244 (Or.inl ⟨?w244, ?y244⟩) (by assumption) ?r244; (case h244 => ((simp only [g1, g2, g3]); rfl)); (case q244 => exact fun _ _ _ h => h); (case w244 => rfl); (case y244 => (intro w' hSw; (try dsimp only at hSw); go_simp; (try with_reducible rfl))); (try simp only [Act.put, s1, s2, s3]))
  (refine takeH (i := 6) (oi := ?o245) (v := ?v245) ?h245 (by kernel_rfl) ?q245 (Or.inl ⟨?w245, ?y245⟩) (by assumption) ?r245; (case h245 => ((simp only [g1, g2, g3]); rfl)); (case q245 => exact fun _ _ _ h => h); (case w245 => rfl); (case y245 => (intro w' hSw; (try dsimp only at hSw); go_simp; (try with_reducible rfl))); (try simp only [Act.put, s1, s2, s3]))
  (refine wpAnyH_ready (rs := [7]) (by kernel_rfl) (by simp) ?_; refine AllReadyH.cons (o := ?o246) ?h246 (fun K hK => ?s246) AllReadyH.nil; (case h246 => (first | ((simp only [g1, g2, g3]); rfl) | rfl)); (refine stRowAtX rowItm (vs := Itm.cells ⟨1, x0, x1, 0, 0, 0, 0⟩) (.tmp 8) (.tmp 40) rfl (hI.kp (show Kp w8 _ from (by (repeat (first | with_reducible assumption | with_reducible exact Kp.refl _ | with_reducible refine Kp.drew ?_ | with_reducible refine Kp.drewN ?_ _ | with_reducible refine Kp.alloc ?_ _ | ((with_reducible refine Kp.setCell ?_ ?_ _); rotate_left; (focus (first | omega | (simp; done) | (simp; omega)))) | with_reducible refine Kp.trans ?_ (by assumption)))))) (by decide) rfl (itmOne _) rfl rfl ?_; intro w9 hb9 hoth9 hkp9 hsz9; have kM9 : Kp wM w9 := hkp9 (Nat.le_refl _) (kM8.trans (show Kp w8 _ from (by (repeat (first | with_reducible assumption | with_reducible exact Kp.refl _ | with_reducible refine Kp.drew ?_ | with_reducible refine Kp.drewN ?_ _ | with_reducible refine Kp.alloc ?_ _ | ((with_reducible refine Kp.setCell ?_ ?_ _); rotate_left; (focus (first | omega | (simp; done) | (simp; omega)))) | with_reducible refine Kp.trans ?_ (by assumption))))))); refine hK.out _ _ ?_ (fun hHd => ?_); (focus ((try dsimp only); exact ⟨(kM9.cell (p := ⟨g, 0, none⟩) hgM).trans eM0, (kM9.cell (p := ⟨g, 1, none⟩) hgM).trans eM1⟩)); clear hK K; (try simp only [Act.put]))
  refine wpAnyH_done (by kernel_rfl) ?_ _
  all_goals
    have bx : Blk w9 wM.heap.size (Itm.cells ⟨1, x0, x1, 0, 0, 0, 0⟩) 43 := hb9
    have bx0 := bx.cell 0 rfl
    have bx1 := bx.cell 1 rfl
    have bx2 := bx.cell 2 rfl
    have bx3 := bx.cell 3 rfl
    have bx4 := bx.cell 4 rfl
    have bx5 := bx.cell 5 rfl
    have bx6 := bx.cell 6 rfl
    have hB9 := hBM.kp kM9
    have hR9 := hRM.kp kM9
    have kw9 : Kp w w9 := kwM.trans kM9
    have q19 := hB9.cell 19 (H19.out.trans rfl)
    have qf19 := hB9.free 19
    have hBl9 := hB9.lt
    have hIl9 := bx.lt
    clear hHd hb9 hoth9 hkp9 hsz9 kwM hBM hRM c19 f19 hI kM8 kM9 hbM k1M
    go_wp2_with (first
      | (at_builtin; go_loud (refine rowAppendXL ?gd (.tmp 113) (.tmp 115) 26 ?ho Tryz.underlying26 infoItm rfl (by decide) (HJ.out.items.kp (show Kp w _ from (by (repeat (first | with_reducible assumption | with_reducible exact Kp.refl _ | with_reducible refine Kp.drew ?_ | with_reducible refine Kp.drewN ?_ _ | with_reducible refine Kp.alloc ?_ _ | ((with_reducible refine Kp.setCell ?_ ?_ _); rotate_left; (focus (first | omega | (simp; done) | (simp; omega)))) | with_reducible refine Kp.trans ?_ (by assumption)))))) ?hs (y := (⟨1, x0, x1, 0, 0, 0, 0⟩ : Itm)) rfl (itmOne _) (show Blk _ w9.heap.size (Itm.cells ⟨1, x0, x1, 0, 0, 0, 0⟩) 43 from (by (repeat (first | with_reducible assumption | ((with_reducible refine Blk.newL ?_ ?_); (focus (first | (simp; done) | omega)); rfl) | with_reducible refine Blk.drew ?_ | with_reducible refine Blk.drewN ?_ _ | with_reducible refine Blk.alloc ?_ _ | ((with_reducible refine Blk.other ?_ ?_ _); rotate_left; (focus (first | with_reducible assumption | omega | (simp; done) | (simp; omega)))))))) ?hx ?hl ?hb ?hz ?_; (case gd => rfl); (case ho => rfl); (case hs => rfl); (case hx => rfl); (case hl => unfold maxLen; omega); (case hb => omega); (case hz => exact Nat.le_trans kW.size (show Kp w _ from (by (repeat (first | with_reducible assumption | with_reducible exact Kp.refl _ | with_reducible refine Kp.drew ?_ | with_reducible refine Kp.drewN ?_ _ | with_reducible refine Kp.alloc ?_ _ | ((with_reducible refine Kp.setCell ?_ ?_ _); rotate_left; (focus (first | omega | (simp; done) | (simp; omega)))) | with_reducible refine Kp.trans ?_ (by assumption))))).size); intro v' w5 hr5 hgb hl5; obtain ⟨a5, c5, rfl, _⟩ := hr5.sl (fun _ => rfl); have hg5 : w.grownBy w5 (Value.slice ia j.items.length ic).ownBlock := grown_trans (show Kp w _ from (by (repeat (first | with_reducible assumption | with_reducible exact Kp.refl _ | with_reducible refine Kp.drew ?_ | with_reducible refine Kp.drewN ?_ _ | with_reducible refine Kp.alloc ?_ _ | ((with_reducible refine Kp.setCell ?_ ?_ _); rotate_left; (focus (first | omega | (simp; done) | (simp; omega)))) | with_reducible refine Kp.trans ?_ (by assumption))))).grownBy hgb; have hB5 : Blk w5 w.heap.size X 54 := Blk.grown1 (show Blk _ w.heap.size X 54 from (by (repeat (first | with_reducible assumption | ((with_reducible refine Blk.newL ?_ ?_); (focus (first | (simp; done) | omega)); rfl) | with_reducible refine Blk.drew ?_ | with_reducible refine Blk.drewN ?_ _ | with_reducible refine Blk.alloc ?_ _ | ((with_reducible refine Blk.other ?_ ?_ _); rotate_left; (focus (first | with_reducible assumption | omega | (simp; done) | (simp; omega)))))))) hgb (fun e => by have := (HJ.out.items.lt _ e).2; omega); have hR5 : Blk w5 w1.heap.size stepZ 54 := Blk.grown1 (show Blk _ w1.heap.size stepZ 54 from (by (repeat (first | with_reducible assumption | ((with_reducible refine Blk.newL ?_ ?_); (focus (first | (simp; done) | omega)); rfl) | with_reducible refine Blk.drew ?_ | with_reducible refine Blk.drewN ?_ _ | with_reducible refine Blk.alloc ?_ _ | ((with_reducible refine Blk.other ?_ ?_ _); rotate_left; (focus (first | with_reducible assumption | omega | (simp; done) | (simp; omega)))))))) hgb (fun e => by have := (HJ.out.items.lt _ e).2; omega); have g19 := hB5.cell 19 (H19.out.trans rfl); have gf19 := hB5.free 19; have hB6 := hB5.set 19 (.slice a5 (j.items.length + 1) c5); rw [← HX.out, step_set19 hgl] at hB6))
      | (refine ldRowAt rowJob rfl (.tmp 119) rfl (vs := jobL j.g j.bal (.slice a5 (j.items.length + 1) c5) nv fv) (stepL_range hB6) (jobL_len hgl) rfl ?_)
      | (refine bdRow3 rfl 54 0 (.tmp 120) 1 (.const (.int .i64 19)) 2 (.const (.bool true)) rfl rfl rfl rfl (built_step (jobL_len hgl) 19 true) ?_)
      | (refine stRowW rowStep rfl (.tmp 6) (.tmp 121) rfl (hR5.other (a := ⟨w.heap.size, 19, none⟩) (by show w1.heap.size ≠ w.heap.size; omega) _) stepZ_len (stepL_len (jobL_len hgl) 19 true) (stepL_one (jobL_one rfl HN1.out HF1.out) 19 true) rfl rfl ?_; intro w7 hb7 hoth7 hkp7 hsz7))
    refine bodyPost_ret (ret_cellRow rowStep Tryz.results29 (stepL_len (jobL_len hgl) 19 true) rfl hb7) rfl ?_
    have hl5' : (j.items ++ [(⟨1, x0, x1, 0, 0, 0, 0⟩ : Itm)]).length = j.items.length + 1 := by simp
    rw [hl5'] at hr5
    have hJ5 := HJ.out.item hr5 hg5
    have hJ6 := hJ5.move (TypedJ.away hB5 notJt_step 19 (.slice a5 (j.items.length + 1) c5))
    have hJ7 := hJ6.move (typedJ_others (hR5.other (a := ⟨w.heap.size, 19, none⟩) (by show w1.heap.size ≠ w.heap.size; omega) _) notJt_step hoth7 hsz7)
    have hK5 := (KeepJ.refl w.heap.size kW).grown HJ.out.items (Nat.le_refl _) (.inl rfl) hg5
    exact ⟨(hK5.set kW.size 19 _).newStore (Nat.le_of_lt (Nat.lt_of_le_of_lt (Nat.le_refl _) hlt)) kW.size hoth7 hkp7 hsz7, _, _, _, rfl, hJ7⟩
set_option maxRecDepth 100000 in
set_option maxHeartbeats 8000000 in
theorem add43_glue (W : World) (j : JobD) (hgl : j.g.length = 18) (iv nv fv : Value) (last : Int) (ok : Bool) (x0 x1 x2 x3 : Int) (B : Nat) (a : Option Addr) (c : Nat) (w : World) (kW : Kp W w) (hJ : JRep w W.heap.size iv nv fv j) (hl : j.items.length ≤ 1000000) (hr : Row w B 2 1 enc1 (.slice a 4 c) [x0, x1, x2, x3]) :
    Calls Tryz.prog 29 #[.agg (stepL (jobL j.g j.bal iv nv fv) last ok).toArray, .int .i64 20, .slice a 4 c] w (AddEnd W { j with items := j.items ++ [⟨2, x0, 0, x1, x2, x3, 0⟩] } w) := by
  obtain ⟨g, rfl, hg, -, hmc, hcm, hcell, -⟩ := int_row hr (by simp)
  have d0 := hcell 0 x0 rfl
  have d1 := hcell 1 x1 rfl
  have d2 := hcell 2 x2 rfl
  have d3 := hcell 3 x3 rfl
  obtain ⟨ia, ic, rfl, hsl⟩ := hJ.items.sl (fun _ => rfl)
  have hic := hsl.2.1
  have him := hsl.2.2.1
  unfold maxLen at him
  have H19 := Lib.hid (stepL_19 (b := j.bal) (iv := .slice ia j.items.length ic) (nv := nv) (fv := fv) hgl 1 (by omega) last ok)
  have HJ := Lib.hid hJ
  have HN1 : Hid (nv.oneCell' = true) := Lib.hid (by obtain ⟨F, nts, h, _⟩ := hJ.notes; exact row_one h)
  have HF1 : Hid (fv.oneCell' = true) := Lib.hid (row_one hJ.floats)
  obtain ⟨X, hX⟩ : ∃ X, stepL (jobL j.g j.bal (.slice ia j.items.length ic) nv fv) last ok = X := ⟨_, rfl⟩
  rw [hX] at H19 ⊢
  have HX := Lib.hid hX
  clear hX hr hcell hJ hsl
  go_enter Tryz.func29, Tryz.ntmps29
  go_wp2_with (first
    | (refine boxRowW (vs := X) rfl (.tmp 0) rfl rfl ?_; intro w1 hB hoth hkp hlt; have kw1 : Kp w w1 := hkp (Kp.refl w); have e0 := (kw1.cell (p := ⟨g, 0, none⟩) hg).trans d0; have e1 := (kw1.cell (p := ⟨g, 1, none⟩) hg).trans d1; have e2 := (kw1.cell (p := ⟨g, 2, none⟩) hg).trans d2; have e3 := (kw1.cell (p := ⟨g, 3, none⟩) hg).trans d3; have hg1 := Nat.lt_of_lt_of_le hg kw1.size; clear hoth hkp d0 d1 d2 d3)
    | (refine stRowW (vs := manyL) rowMany rfl (.tmp 7) (.tmp 9) rfl (Blk.newL (cs := manyZ) (by simp) rfl) rfl rfl manyL_one rfl rfl ?_; intro wM hbM hothM hkpM hszM; have hBM := hothM (by omega) ((hB.alloc _).alloc _); have hRM := hothM (b' := w1.heap.size) (cs := stepZ) (t' := 54) (by omega) (Blk.alloc (Blk.newL rfl rfl) _); have k1M : Kp w1 wM := hkpM (Nat.le_succ _) (show Kp w1 _ from (by (repeat (first | with_reducible assumption | with_reducible exact Kp.refl _ | with_reducible refine Kp.drew ?_ | with_reducible refine Kp.drewN ?_ _ | with_reducible refine Kp.alloc ?_ _ | ((with_reducible refine Kp.setCell ?_ ?_ _); rotate_left; (focus (first | omega | (simp; done) | (simp; omega)))) | with_reducible refine Kp.trans ?_ (by assumption))))); have mat := hbM.cell 20 rfl; have eM0 := (k1M.cell (p := ⟨g, 0, none⟩) hg1).trans e0; have eM1 := (k1M.cell (p := ⟨g, 1, none⟩) hg1).trans e1; have eM2 := (k1M.cell (p := ⟨g, 2, none⟩) hg1).trans e2; have eM3 := (k1M.cell (p := ⟨g, 3, none⟩) hg1).trans e3; have hgM := Nat.lt_of_lt_of_le hg1 k1M.size; have kwM : Kp w wM := kw1.trans k1M; have c19 := hBM.cell 19 (H19.out.trans rfl); have f19 := hBM.free 19; have hBl := hBM.lt; clear hothM hkpM hszM e0 e1 e2 e3))
  refine named_world (F := fun w8 => Blk w8 wM.heap.size [.int .i64 0, .int .i64 0, .int .i64 0, .int .i64 0, .int .i64 0, .int .i64 0, .int .i64 0] 43 ∧ Kp wM w8) ⟨Blk.newL rfl rfl, (Kp.refl wM).alloc _⟩ ?_
  rintro w8 ⟨hI, kM8⟩
  have e0 := (kM8.cell (p := ⟨g, 0, none⟩) hgM).trans eM0
  have e1 := (kM8.cell (p := ⟨g, 1, none⟩) hgM).trans eM1
  have e2 := (kM8.cell (p := ⟨g, 2, none⟩) hgM).trans eM2
  have e3 := (kM8.cell (p := ⟨g, 3, none⟩) hgM).trans eM3
  (refine wp_region_held_drew (S := (fun w' => w'.cell? ⟨g, 0, none⟩ = some (.int .i64 x0) ∧ w'.cell? ⟨g, 1, none⟩ = some (.int .i64 x1) ∧ w'.cell? ⟨g, 2, none⟩ = some (.int .i64 x2) ∧ w'.cell? ⟨g, 3, none⟩ = some (.int .i64 x3))) (by kernel_rfl) ?_ (fun hHd => ?_); (focus ((try dsimp only); exact ⟨e0, e1, e2, e3⟩)))
  (refine takeH (i := 0) (oi := ?o248) (v := ?v248) ?h248 (by kernel_rfl) ?q248 (Or.inl ⟨?w248, ?y248⟩) (by assumption) ?r248; (case h248 => ((simp only [g1, g3]); rfl)); (case q248 => exact fun _ _ _ h => h); (case w248 => rfl); (case y248 => (intro w' hSw; (try dsimp only at hSw); go_simp; (try with_reducible rfl))); (try simp only [Act.put, s1, s2, s3]))
  (refine takeH (i := 1) (oi := ?o249) (v := ?v249) ?h249 (by kernel_rfl) ?q249 (Or.inl ⟨?w249, ?y249⟩) (by assumption) ?r249; (case h249 => ((simp only [g1, g2, g3]); rfl)); (case q249 => exact fun _ _ _ h => h); (case w249 => rfl); (case y249 => (intro w' hSw; (try dsimp only at hSw); go_simp; (try with_reducible rfl))); (try simp only [Act.put, s1, s2, s3]))
  (refine takeH (i := 2) (oi := ?o250) (v := ?v250) ?h250 (by kernel_rfl) ?q250 (Or.inl ⟨?w250, ?y250⟩) (by assumption) ?r250; (case h250 => ((simp only [g1, g2, g3]); rfl)); (case q250 => exact fun _ _ _ h => h); (case w250 => rfl); (case y250 => (intro w' hSw; (try dsimp only at hSw); go_simp; (try with_reducible rfl))); (try simp only [Act.put, s1, s2, s3]))
  (refine takeH (i := 3) (oi := ?o251) (v := ?v251) ?h251 (by kernel_rfl) ?q251 (Or.inl ⟨?w251, ?y251⟩) (by assumption) ?r251; (case h251 => ((simp only [g1, g2, g3]); rfl)); (case q251 => exact fun _ _ _ h => h); (case w251 => rfl); (case y251 => (intro w' hSw; (try dsimp only at hSw); go_simp; (try with_reducible rfl))); (try simp only [Act.put, s1, s2, s3]))
  (refine takeH (i := 4) (oi := ?o252) (v := ?v252) ?h252 (by kernel_rfl) ?q252 (Or.inl ⟨?w252, ?y252⟩) (by assumption) ?r252; (case h252 => ((simp only [g1, g2, g3]); rfl)); (case q252 => exact fun _ _ _ h => h); (case w252 => rfl); (case y252 => (intro w' hSw; (try dsimp only at hSw); go_simp; (try with_reducible rfl))); (try simp only [Act.put, s1, s2, s3]))
  (refine takeH (i := 5) (oi := ?o253) (v := ?v253) ?h253 (by kernel_rfl) ?q253 (Or.inl ⟨?w253, ?y253⟩) (by assumption) ?r253; (case h253 => ((simp only [g1, g2, g3]); rfl)); (case q253 => exact fun _ _ _ h => h); (case w253 => rfl); (case y253 => (intro w' hSw; (try dsimp only at hSw); go_simp; (try with_reducible rfl))); (try simp only [Act.put, s1, s2, s3]))
  (refine takeH (i := 6) (oi := ?o254) (v := ?v254) ?h254 (by kernel_rfl) ?q254 (Or.inl ⟨?w254, ?y254⟩) (by assumption) ?r254; (case h254 => ((simp only [g1, g2, g3]); rfl)); (case q254 => exact fun _ _ _ h => h); (case w254 => rfl); (case y254 => (intro w' hSw; (try dsimp only at hSw); go_simp; (try with_reducible rfl))); (try simp only [Act.put, s1, s2, s3]))
  (refine takeH (i := 7) (oi := ?o255) (v := ?v255) ?h255 (by kernel_rfl) ?q255 (Or.inl ⟨?w255, ?y255⟩) (by assumption) ?r255; (case h255 => ((simp only [g1, g2, g3]); rfl)); (case q255 => exact fun _ _ _ h => h); (case w255 => rfl); (case y255 => (intro w' hSw; (try dsimp only at hSw); go_simp; (try with_reducible rfl))); (try simp only [Act.put, s1, s2, s3]))
  (refine takeH (i := 8) (oi := ?o256) (v := ?v256) ?h256 (by kernel_rfl) ?q256 (Or.inl ⟨?w256, ?y256⟩) (by assumption) ?r256; (case h256 => ((simp only [g1, g2, g3]); rfl)); (case q256 => exact fun _ _ _ h => h); (case w256 => rfl); (case y256 => (intro w' hSw; (try dsimp only at hSw); go_simp; (try with_reducible rfl))); (try simp only [Act.put, s1, s2, s3]))
  (refine takeH (i := 9) (oi := ?o257) (v := ?v257) ?h257 (by kernel_rfl) ?q257 (Or.inl ⟨?w257, ?y257⟩) (by assumption) ?r257; (case h257 => ((simp only [g1, g2, g3]); rfl)); (case q257 => exact fun _ _ _ h => h); (case w257 => rfl); (case y257 => (intro w' hSw; (try dsimp only at hSw); go_simp; (try with_reducible rfl))); (try simp only [Act.put, s1, s2, s3]))
  (refine takeH (i := 10) (oi := ?o258) (v := ?v258) ?h258 (by kernel_rfl) ?q258 (Or.inl ⟨?w258, ?y258⟩) (by assumption) ?r258; (case h258 => ((simp only [g1, g2, g3]); rfl)); (case q258 => exact fun _ _ _ h => h); (case w258 => rfl); (case y258 => (intro w' hSw; (try dsimp only at hSw); go_simp; (try with_reducible rfl))); (try simp only [Act.put, s1, s2, s3]))
  (refine takeH (i := 11) (oi := ?o259) (v := ?v259) ?h259 (by kernel_rfl) ?q259 (Or.inl ⟨?w259, ?y259⟩) (by assumption) ?r259; (case h259 => ((simp only [g1, g2, g3]); rfl)); (case q259 => exact fun _ _ _ h => h); (case w259 => rfl); (case y259 => (intro w' hSw; (try dsimp only at hSw); go_simp; (try with_reducible rfl))); (try simp only [Act.put, s1, s2, s3]))
  (refine takeH (i := 12) (oi := ?o260) (v := ?v260) ?h260 (by kernel_rfl) ?q260 (Or.inl ⟨?w260, ?y260⟩) (by assumption) ?r260; (case h260 => ((simp only [g1, g2, g3]); rfl)); (case q260 => exact fun _ _ _ h => h); (case w260 => rfl); (case y260 => (intro w' hSw; (try dsimp only at hSw); go_simp; (try with_reducible rfl))); (try simp only [Act.put, s1, s2, s3]))
  (refine wpAnyH_ready (rs := [13]) (by kernel_rfl) (by simp) ?_; refine AllReadyH.cons (o := ?o261) ?h261 (fun K hK => ?s261) AllReadyH.nil; (case h261 => (first | ((simp only [g1, g2, g3]); rfl) | rfl)); (refine stRowAtX rowItm (vs := Itm.cells ⟨2, x0, 0, x1, x2, x3, 0⟩) (.tmp 8) (.tmp 55) rfl (hI.kp (show Kp w8 _ from (by (repeat (first | with_reducible assumption | with_reducible exact Kp.refl _ | with_reducible refine Kp.drew ?_ | with_reducible refine Kp.drewN ?_ _ | with_reducible refine Kp.alloc ?_ _ | ((with_reducible refine Kp.setCell ?_ ?_ _); rotate_left; (focus (first | omega | (simp; done) | (simp; omega)))) | with_reducible refine Kp.trans ?_ (by assumption)))))) (by decide) rfl (itmOne _) rfl rfl ?_; intro w9 hb9 hoth9 hkp9 hsz9; have kM9 : Kp wM w9 := hkp9 (Nat.le_refl _) (kM8.trans (show Kp w8 _ from (by (repeat (first | with_reducible assumption | with_reducible exact Kp.refl _ | with_reducible refine Kp.drew ?_ | with_reducible refine Kp.drewN ?_ _ | with_reducible refine Kp.alloc ?_ _ | ((with_reducible refine Kp.setCell ?_ ?_ _); rotate_left; (focus (first | omega | (simp; done) | (simp; omega)))) | with_reducible refine Kp.trans ?_ (by assumption))))))); refine hK.out _ _ ?_ (fun hHd => ?_); (focus ((try dsimp only); exact ⟨(kM9.cell (p := ⟨g, 0, none⟩) hgM).trans eM0, (kM9.cell (p := ⟨g, 1, none⟩) hgM).trans eM1, (kM9.cell (p := ⟨g, 2, none⟩) hgM).trans eM2, (kM9.cell (p := ⟨g, 3, none⟩) hgM).trans eM3⟩)); clear hK K; (try simp only [Act.put]))
  refine wpAnyH_done (by kernel_rfl) ?_ _
  all_goals
    have bx : Blk w9 wM.heap.size (Itm.cells ⟨2, x0, 0, x1, x2, x3, 0⟩) 43 := hb9
    have bx0 := bx.cell 0 rfl
    have bx1 := bx.cell 1 rfl
    have bx2 := bx.cell 2 rfl
    have bx3 := bx.cell 3 rfl
    have bx4 := bx.cell 4 rfl
    have bx5 := bx.cell 5 rfl
    have bx6 := bx.cell 6 rfl
    have hB9 := hBM.kp kM9
    have hR9 := hRM.kp kM9
    have kw9 : Kp w w9 := kwM.trans kM9
    have q19 := hB9.cell 19 (H19.out.trans rfl)
    have qf19 := hB9.free 19
    have hBl9 := hB9.lt
    have hIl9 := bx.lt
    clear hHd hb9 hoth9 hkp9 hsz9 kwM hBM hRM c19 f19 hI kM8 kM9 hbM k1M
    go_wp2_with (first
      | (at_builtin; go_loud (refine rowAppendXL ?gd (.tmp 113) (.tmp 115) 26 ?ho Tryz.underlying26 infoItm rfl (by decide) (HJ.out.items.kp (show Kp w _ from (by (repeat (first | with_reducible assumption | with_reducible exact Kp.refl _ | with_reducible refine Kp.drew ?_ | with_reducible refine Kp.drewN ?_ _ | with_reducible refine Kp.alloc ?_ _ | ((with_reducible refine Kp.setCell ?_ ?_ _); rotate_left; (focus (first | omega | (simp; done) | (simp; omega)))) | with_reducible refine Kp.trans ?_ (by assumption)))))) ?hs (y := (⟨2, x0, 0, x1, x2, x3, 0⟩ : Itm)) rfl (itmOne _) (show Blk _ w9.heap.size (Itm.cells ⟨2, x0, 0, x1, x2, x3, 0⟩) 43 from (by (repeat (first | with_reducible assumption | ((with_reducible refine Blk.newL ?_ ?_); (focus (first | (simp; done) | omega)); rfl) | with_reducible refine Blk.drew ?_ | with_reducible refine Blk.drewN ?_ _ | with_reducible refine Blk.alloc ?_ _ | ((with_reducible refine Blk.other ?_ ?_ _); rotate_left; (focus (first | with_reducible assumption | omega | (simp; done) | (simp; omega)))))))) ?hx ?hl ?hb ?hz ?_; (case gd => rfl); (case ho => rfl); (case hs => rfl); (case hx => rfl); (case hl => unfold maxLen; omega); (case hb => omega); (case hz => exact Nat.le_trans kW.size (show Kp w _ from (by (repeat (first | with_reducible assumption | with_reducible exact Kp.refl _ | with_reducible refine Kp.drew ?_ | with_reducible refine Kp.drewN ?_ _ | with_reducible refine Kp.alloc ?_ _ | ((with_reducible refine Kp.setCell ?_ ?_ _); rotate_left; (focus (first | omega | (simp; done) | (simp; omega)))) | with_reducible refine Kp.trans ?_ (by assumption))))).size); intro v' w5 hr5 hgb hl5; obtain ⟨a5, c5, rfl, _⟩ := hr5.sl (fun _ => rfl); have hg5 : w.grownBy w5 (Value.slice ia j.items.length ic).ownBlock := grown_trans (show Kp w _ from (by (repeat (first | with_reducible assumption | with_reducible exact Kp.refl _ | with_reducible refine Kp.drew ?_ | with_reducible refine Kp.drewN ?_ _ | with_reducible refine Kp.alloc ?_ _ | ((with_reducible refine Kp.setCell ?_ ?_ _); rotate_left; (focus (first | omega | (simp; done) | (simp; omega)))) | with_reducible refine Kp.trans ?_ (by assumption))))).grownBy hgb; have hB5 : Blk w5 w.heap.size X 54 := Blk.grown1 (show Blk _ w.heap.size X 54 from (by (repeat (first | with_reducible assumption | ((with_reducible refine Blk.newL ?_ ?_); (focus (first | (simp; done) | omega)); rfl) | with_reducible refine Blk.drew ?_ | with_reducible refine Blk.drewN ?_ _ | with_reducible refine Blk.alloc ?_ _ | ((with_reducible refine Blk.other ?_ ?_ _); rotate_left; (focus (first | with_reducible assumption | omega | (simp; done) | (simp; omega)))))))) hgb (fun e => by have := (HJ.out.items.lt _ e).2; omega); have hR5 : Blk w5 w1.heap.size stepZ 54 := Blk.grown1 (show Blk _ w1.heap.size stepZ 54 from (by (repeat (first | with_reducible assumption | ((with_reducible refine Blk.newL ?_ ?_); (focus (first | (simp; done) | omega)); rfl) | with_reducible refine Blk.drew ?_ | with_reducible refine Blk.drewN ?_ _ | with_reducible refine Blk.alloc ?_ _ | ((with_reducible refine Blk.other ?_ ?_ _); rotate_left; (focus (first | with_reducible assumption | omega | (simp; done) | (simp; omega)))))))) hgb (fun e => by have := (HJ.out.items.lt _ e).2; omega); have g19 := hB5.cell 19 (H19.out.trans rfl); have gf19 := hB5.free 19; have hB6 := hB5.set 19 (.slice a5 (j.items.length + 1) c5); rw [← HX.out, step_set19 hgl] at hB6))
      | (refine ldRowAt rowJob rfl (.tmp 119) rfl (vs := jobL j.g j.bal (.slice a5 (j.items.length + 1) c5) nv fv) (stepL_range hB6) (jobL_len hgl) rfl ?_)
      | (refine bdRow3 rfl 54 0 (.tmp 120) 1 (.const (.int .i64 19)) 2 (.const (.bool true)) rfl rfl rfl rfl (built_step (jobL_len hgl) 19 true) ?_)
      | (refine stRowW rowStep rfl (.tmp 6) (.tmp 121) rfl (hR5.other (a := ⟨w.heap.size, 19, none⟩) (by show w1.heap.size ≠ w.heap.size; omega) _) stepZ_len (stepL_len (jobL_len hgl) 19 true) (stepL_one (jobL_one rfl HN1.out HF1.out) 19 true) rfl rfl ?_; intro w7 hb7 hoth7 hkp7 hsz7))
    refine bodyPost_ret (ret_cellRow rowStep Tryz.results29 (stepL_len (jobL_len hgl) 19 true) rfl hb7) rfl ?_
    have hl5' : (j.items ++ [(⟨2, x0, 0, x1, x2, x3, 0⟩ : Itm)]).length = j.items.length + 1 := by simp
    rw [hl5'] at hr5
    have hJ5 := HJ.out.item hr5 hg5
    have hJ6 := hJ5.move (TypedJ.away hB5 notJt_step 19 (.slice a5 (j.items.length + 1) c5))
    have hJ7 := hJ6.move (typedJ_others (hR5.other (a := ⟨w.heap.size, 19, none⟩) (by show w1.heap.size ≠ w.heap.size; omega) _) notJt_step hoth7 hsz7)
    have hK5 := (KeepJ.refl w.heap.size kW).grown HJ.out.items (Nat.le_refl _) (.inl rfl) hg5
    exact ⟨(hK5.set kW.size 19 _).newStore (Nat.le_of_lt (Nat.lt_of_le_of_lt (Nat.le_refl _) hlt)) kW.size hoth7 hkp7 hsz7, _, _, _, rfl, hJ7⟩
end Go.Proofs.YtaekeogaakogbaaGreatDoor
