/- The document's items (tympanref43.add): plain kinds. Printed by wip/g43f.py. -/
import Derived.Test.YtaekeogaakogbaaGreatDoorK10

namespace Go.Proofs.YtaekeogaakogbaaGreatDoor

open Go.ChangeShapes Go.WideShapes Go.ChangeAt Go.RowKit Go.Shelf

set_option maxRecDepth 100000 in
set_option maxHeartbeats 8000000 in
theorem add43_mark (W : World) (j : JobD) (hgl : j.g.length = 18) (iv nv fv : Value) (last : Int) (ok : Bool) (x0 : Int) (B : Nat) (a : Option Addr) (c : Nat) (w : World) (kW : Kp W w) (hJ : JRep w W.heap.size iv nv fv j) (hl : j.items.length ≤ 1000000) (hr : Row w B 2 1 enc1 (.slice a 1 c) [x0]) :
    Calls Tryz.prog 29 #[.agg (stepL (jobL j.g j.bal iv nv fv) last ok).toArray, .int .i64 22, .slice a 1 c] w (AddEnd W { j with items := j.items ++ [⟨4, 0, 0, 0, 0, 0, x0⟩] } w) := by
  obtain ⟨g, rfl, hg, -, hmc, hcm, hcell, -⟩ := int_row hr (by simp)
  have d0 := hcell 0 x0 rfl
  obtain ⟨ia, ic, rfl, hsl⟩ := hJ.items.sl (fun _ => rfl)
  have hic := hsl.2.1
  have him := hsl.2.2.1
  unfold maxLen at him
  have H19 := Lib.hid (stepL_19 (b := j.bal) (iv := .slice ia j.items.length ic) (nv := nv) (fv := fv) hgl 1 (by omega) last ok)
  have HJ := Lib.hid hJ
  have HN1 : Hid (nv.oneCell' = true) := Lib.hid (by obtain ⟨F, nts, h, _⟩ := hJ.notes; exact row_one h)
  have HF1 : Hid (fv.oneCell' = true) := Lib.hid (row_one hJ.floats)
  obtain ⟨X, hX⟩ : ∃ X, stepL (jobL j.g j.bal (.slice ia j.items.length ic) nv fv) last ok = X := ⟨_, rfl⟩
  rw [hX] at H19 ⊢
  have HX := Lib.hid hX
  clear hX hr hcell hJ hsl
  go_enter Tryz.func29, Tryz.ntmps29
  go_wp2_with (first
    | (refine boxRowW (vs := X) rfl (.tmp 0) rfl rfl ?_; intro w1 hB hoth hkp hlt; have kw1 : Kp w w1 := hkp (Kp.refl w); have e0 := (kw1.cell (p := ⟨g, 0, none⟩) hg).trans d0; have hg1 := Nat.lt_of_lt_of_le hg kw1.size; clear hoth hkp d0)
    | (refine stRowW (vs := manyL) rowMany rfl (.tmp 7) (.tmp 9) rfl (Blk.newL (cs := manyZ) (by simp) rfl) rfl rfl manyL_one rfl rfl ?_; intro wM hbM hothM hkpM hszM; have hBM := hothM (by omega) ((hB.alloc _).alloc _); have hRM := hothM (b' := w1.heap.size) (cs := stepZ) (t' := 54) (by omega) (Blk.alloc (Blk.newL rfl rfl) _); have k1M : Kp w1 wM := hkpM (Nat.le_succ _) (show Kp w1 _ from (by (repeat (first | with_reducible assumption | with_reducible exact Kp.refl _ | with_reducible refine Kp.drew ?_ | with_reducible refine Kp.drewN ?_ _ | with_reducible refine Kp.alloc ?_ _ | ((with_reducible refine Kp.setCell ?_ ?_ _); rotate_left; (focus (first | omega | (simp; done) | (simp; omega)))) | with_reducible refine Kp.trans ?_ (by assumption))))); have mat := hbM.cell 22 rfl; have eM0 := (k1M.cell (p := ⟨g, 0, none⟩) hg1).trans e0; have hgM := Nat.lt_of_lt_of_le hg1 k1M.size; have kwM : Kp w wM := kw1.trans k1M; have c19 := hBM.cell 19 (H19.out.trans rfl); have f19 := hBM.free 19; have hBl := hBM.lt; clear hothM hkpM hszM e0)
    | (at_builtin; go_loud (refine rowAppendXL ?gd (.tmp 113) (.tmp 115) 26 ?ho Tryz.underlying26 infoItm rfl (by decide) (HJ.out.items.kp (show Kp w _ from (by (repeat (first | with_reducible assumption | with_reducible exact Kp.refl _ | with_reducible refine Kp.drew ?_ | with_reducible refine Kp.drewN ?_ _ | with_reducible refine Kp.alloc ?_ _ | ((with_reducible refine Kp.setCell ?_ ?_ _); rotate_left; (focus (first | omega | (simp; done) | (simp; omega)))) | with_reducible refine Kp.trans ?_ (by assumption)))))) ?hs (y := (⟨4, 0, 0, 0, 0, 0, x0⟩ : Itm)) rfl (itmOne _) (show Blk _ (wM.heap.size + 1) (Itm.cells ⟨4, 0, 0, 0, 0, 0, x0⟩) 43 from (by (repeat (first | with_reducible assumption | ((with_reducible refine Blk.newL ?_ ?_); (focus (first | (simp; done) | omega)); rfl) | with_reducible refine Blk.drew ?_ | with_reducible refine Blk.drewN ?_ _ | with_reducible refine Blk.alloc ?_ _ | ((with_reducible refine Blk.other ?_ ?_ _); rotate_left; (focus (first | with_reducible assumption | omega | (simp; done) | (simp; omega)))))))) ?hx ?hl ?hb ?hz ?_; (case gd => rfl); (case ho => rfl); (case hs => rfl); (case hx => rfl); (case hl => unfold maxLen; omega); (case hb => omega); (case hz => exact Nat.le_trans kW.size (show Kp w _ from (by (repeat (first | with_reducible assumption | with_reducible exact Kp.refl _ | with_reducible refine Kp.drew ?_ | with_reducible refine Kp.drewN ?_ _ | with_reducible refine Kp.alloc ?_ _ | ((with_reducible refine Kp.setCell ?_ ?_ _); rotate_left; (focus (first | omega | (simp; done) | (simp; omega)))) | with_reducible refine Kp.trans ?_ (by assumption))))).size); intro v' w5 hr5 hgb hl5; obtain ⟨a5, c5, rfl, _⟩ := hr5.sl (fun _ => rfl); have hg5 : w.grownBy w5 (Value.slice ia j.items.length ic).ownBlock := grown_trans (show Kp w _ from (by (repeat (first | with_reducible assumption | with_reducible exact Kp.refl _ | with_reducible refine Kp.drew ?_ | with_reducible refine Kp.drewN ?_ _ | with_reducible refine Kp.alloc ?_ _ | ((with_reducible refine Kp.setCell ?_ ?_ _); rotate_left; (focus (first | omega | (simp; done) | (simp; omega)))) | with_reducible refine Kp.trans ?_ (by assumption))))).grownBy hgb; have hB5 : Blk w5 w.heap.size X 54 := Blk.grown1 (show Blk _ w.heap.size X 54 from (by (repeat (first | with_reducible assumption | ((with_reducible refine Blk.newL ?_ ?_); (focus (first | (simp; done) | omega)); rfl) | with_reducible refine Blk.drew ?_ | with_reducible refine Blk.drewN ?_ _ | with_reducible refine Blk.alloc ?_ _ | ((with_reducible refine Blk.other ?_ ?_ _); rotate_left; (focus (first | with_reducible assumption | omega | (simp; done) | (simp; omega)))))))) hgb (fun e => by have := (HJ.out.items.lt _ e).2; omega); have hR5 : Blk w5 w1.heap.size stepZ 54 := Blk.grown1 (show Blk _ w1.heap.size stepZ 54 from (by (repeat (first | with_reducible assumption | ((with_reducible refine Blk.newL ?_ ?_); (focus (first | (simp; done) | omega)); rfl) | with_reducible refine Blk.drew ?_ | with_reducible refine Blk.drewN ?_ _ | with_reducible refine Blk.alloc ?_ _ | ((with_reducible refine Blk.other ?_ ?_ _); rotate_left; (focus (first | with_reducible assumption | omega | (simp; done) | (simp; omega)))))))) hgb (fun e => by have := (HJ.out.items.lt _ e).2; omega); have g19 := hB5.cell 19 (H19.out.trans rfl); have gf19 := hB5.free 19; have hB6 := hB5.set 19 (.slice a5 (j.items.length + 1) c5); rw [← HX.out, step_set19 hgl] at hB6))
    | (refine ldRowAt rowJob rfl (.tmp 119) rfl (vs := jobL j.g j.bal (.slice a5 (j.items.length + 1) c5) nv fv) (stepL_range hB6) (jobL_len hgl) rfl ?_)
    | (refine bdRow3 rfl 54 0 (.tmp 120) 1 (.const (.int .i64 19)) 2 (.const (.bool true)) rfl rfl rfl rfl (built_step (jobL_len hgl) 19 true) ?_)
    | (refine stRowW rowStep rfl (.tmp 6) (.tmp 121) rfl (hR5.other (a := ⟨w.heap.size, 19, none⟩) (by show w1.heap.size ≠ w.heap.size; omega) _) stepZ_len (stepL_len (jobL_len hgl) 19 true) (stepL_one (jobL_one rfl HN1.out HF1.out) 19 true) rfl rfl ?_; intro w7 hb7 hoth7 hkp7 hsz7))
  refine bodyPost_ret (ret_cellRow rowStep Tryz.results29 (stepL_len (jobL_len hgl) 19 true) rfl hb7) rfl ?_
  have hl5' : (j.items ++ [(⟨4, 0, 0, 0, 0, 0, x0⟩ : Itm)]).length = j.items.length + 1 := by simp
  rw [hl5'] at hr5
  have hJ5 := HJ.out.item hr5 hg5
  have hJ6 := hJ5.move (TypedJ.away hB5 notJt_step 19 (.slice a5 (j.items.length + 1) c5))
  have hJ7 := hJ6.move (typedJ_others (hR5.other (a := ⟨w.heap.size, 19, none⟩) (by show w1.heap.size ≠ w.heap.size; omega) _) notJt_step hoth7 hsz7)
  have hK5 := (KeepJ.refl w.heap.size kW).grown HJ.out.items (Nat.le_refl _) (.inl rfl) hg5
  exact ⟨(hK5.set kW.size 19 _).newStore (Nat.le_of_lt (Nat.lt_of_le_of_lt (Nat.le_refl _) hlt)) kW.size hoth7 hkp7 hsz7, _, _, _, rfl, hJ7⟩
set_option maxRecDepth 100000 in
set_option maxHeartbeats 8000000 in
theorem add43_bar (W : World) (j : JobD) (hgl : j.g.length = 18) (iv nv fv : Value) (last : Int) (ok : Bool) (a : Option Addr) (c : Nat) (w : World) (kW : Kp W w) (hJ : JRep w W.heap.size iv nv fv j) (hl : j.items.length ≤ 1000000) :
    Calls Tryz.prog 29 #[.agg (stepL (jobL j.g j.bal iv nv fv) last ok).toArray, .int .i64 25, .slice a 0 c] w (AddEnd W { j with items := j.items ++ [⟨7, 0, 0, 0, 0, 0, 0⟩] } w) := by
  obtain ⟨ia, ic, rfl, hsl⟩ := hJ.items.sl (fun _ => rfl)
  have hic := hsl.2.1
  have him := hsl.2.2.1
  unfold maxLen at him
  have H19 := Lib.hid (stepL_19 (b := j.bal) (iv := .slice ia j.items.length ic) (nv := nv) (fv := fv) hgl 1 (by omega) last ok)
  have HJ := Lib.hid hJ
  have HN1 : Hid (nv.oneCell' = true) := Lib.hid (by obtain ⟨F, nts, h, _⟩ := hJ.notes; exact row_one h)
  have HF1 : Hid (fv.oneCell' = true) := Lib.hid (row_one hJ.floats)
  obtain ⟨X, hX⟩ : ∃ X, stepL (jobL j.g j.bal (.slice ia j.items.length ic) nv fv) last ok = X := ⟨_, rfl⟩
  rw [hX] at H19 ⊢
  have HX := Lib.hid hX
  clear hX hJ hsl
  go_enter Tryz.func29, Tryz.ntmps29
  go_wp2_with (first
    | (refine boxRowW (vs := X) rfl (.tmp 0) rfl rfl ?_; intro w1 hB hoth hkp hlt; have kw1 : Kp w w1 := hkp (Kp.refl w); clear hoth hkp)
    | (refine stRowW (vs := manyL) rowMany rfl (.tmp 7) (.tmp 9) rfl (Blk.newL (cs := manyZ) (by simp) rfl) rfl rfl manyL_one rfl rfl ?_; intro wM hbM hothM hkpM hszM; have hBM := hothM (by omega) ((hB.alloc _).alloc _); have hRM := hothM (b' := w1.heap.size) (cs := stepZ) (t' := 54) (by omega) (Blk.alloc (Blk.newL rfl rfl) _); have k1M : Kp w1 wM := hkpM (Nat.le_succ _) (show Kp w1 _ from (by (repeat (first | with_reducible assumption | with_reducible exact Kp.refl _ | with_reducible refine Kp.drew ?_ | with_reducible refine Kp.drewN ?_ _ | with_reducible refine Kp.alloc ?_ _ | ((with_reducible refine Kp.setCell ?_ ?_ _); rotate_left; (focus (first | omega | (simp; done) | (simp; omega)))) | with_reducible refine Kp.trans ?_ (by assumption))))); have mat := hbM.cell 25 rfl; have kwM : Kp w wM := kw1.trans k1M; have c19 := hBM.cell 19 (H19.out.trans rfl); have f19 := hBM.free 19; have hBl := hBM.lt; clear hothM hkpM hszM)
    | (at_builtin; go_loud (refine rowAppendXL ?gd (.tmp 113) (.tmp 115) 26 ?ho Tryz.underlying26 infoItm rfl (by decide) (HJ.out.items.kp (show Kp w _ from (by (repeat (first | with_reducible assumption | with_reducible exact Kp.refl _ | with_reducible refine Kp.drew ?_ | with_reducible refine Kp.drewN ?_ _ | with_reducible refine Kp.alloc ?_ _ | ((with_reducible refine Kp.setCell ?_ ?_ _); rotate_left; (focus (first | omega | (simp; done) | (simp; omega)))) | with_reducible refine Kp.trans ?_ (by assumption)))))) ?hs (y := (⟨7, 0, 0, 0, 0, 0, 0⟩ : Itm)) rfl (itmOne _) (show Blk _ (wM.heap.size + 1) (Itm.cells ⟨7, 0, 0, 0, 0, 0, 0⟩) 43 from (by (repeat (first | with_reducible assumption | ((with_reducible refine Blk.newL ?_ ?_); (focus (first | (simp; done) | omega)); rfl) | with_reducible refine Blk.drew ?_ | with_reducible refine Blk.drewN ?_ _ | with_reducible refine Blk.alloc ?_ _ | ((with_reducible refine Blk.other ?_ ?_ _); rotate_left; (focus (first | with_reducible assumption | omega | (simp; done) | (simp; omega)))))))) ?hx ?hl ?hb ?hz ?_; (case gd => rfl); (case ho => rfl); (case hs => rfl); (case hx => rfl); (case hl => unfold maxLen; omega); (case hb => omega); (case hz => exact Nat.le_trans kW.size (show Kp w _ from (by (repeat (first | with_reducible assumption | with_reducible exact Kp.refl _ | with_reducible refine Kp.drew ?_ | with_reducible refine Kp.drewN ?_ _ | with_reducible refine Kp.alloc ?_ _ | ((with_reducible refine Kp.setCell ?_ ?_ _); rotate_left; (focus (first | omega | (simp; done) | (simp; omega)))) | with_reducible refine Kp.trans ?_ (by assumption))))).size); intro v' w5 hr5 hgb hl5; obtain ⟨a5, c5, rfl, _⟩ := hr5.sl (fun _ => rfl); have hg5 : w.grownBy w5 (Value.slice ia j.items.length ic).ownBlock := grown_trans (show Kp w _ from (by (repeat (first | with_reducible assumption | with_reducible exact Kp.refl _ | with_reducible refine Kp.drew ?_ | with_reducible refine Kp.drewN ?_ _ | with_reducible refine Kp.alloc ?_ _ | ((with_reducible refine Kp.setCell ?_ ?_ _); rotate_left; (focus (first | omega | (simp; done) | (simp; omega)))) | with_reducible refine Kp.trans ?_ (by assumption))))).grownBy hgb; have hB5 : Blk w5 w.heap.size X 54 := Blk.grown1 (show Blk _ w.heap.size X 54 from (by (repeat (first | with_reducible assumption | ((with_reducible refine Blk.newL ?_ ?_); (focus (first | (simp; done) | omega)); rfl) | with_reducible refine Blk.drew ?_ | with_reducible refine Blk.drewN ?_ _ | with_reducible refine Blk.alloc ?_ _ | ((with_reducible refine Blk.other ?_ ?_ _); rotate_left; (focus (first | with_reducible assumption | omega | (simp; done) | (simp; omega)))))))) hgb (fun e => by have := (HJ.out.items.lt _ e).2; omega); have hR5 : Blk w5 w1.heap.size stepZ 54 := Blk.grown1 (show Blk _ w1.heap.size stepZ 54 from (by (repeat (first | with_reducible assumption | ((with_reducible refine Blk.newL ?_ ?_); (focus (first | (simp; done) | omega)); rfl) | with_reducible refine Blk.drew ?_ | with_reducible refine Blk.drewN ?_ _ | with_reducible refine Blk.alloc ?_ _ | ((with_reducible refine Blk.other ?_ ?_ _); rotate_left; (focus (first | with_reducible assumption | omega | (simp; done) | (simp; omega)))))))) hgb (fun e => by have := (HJ.out.items.lt _ e).2; omega); have g19 := hB5.cell 19 (H19.out.trans rfl); have gf19 := hB5.free 19; have hB6 := hB5.set 19 (.slice a5 (j.items.length + 1) c5); rw [← HX.out, step_set19 hgl] at hB6))
    | (refine ldRowAt rowJob rfl (.tmp 119) rfl (vs := jobL j.g j.bal (.slice a5 (j.items.length + 1) c5) nv fv) (stepL_range hB6) (jobL_len hgl) rfl ?_)
    | (refine bdRow3 rfl 54 0 (.tmp 120) 1 (.const (.int .i64 19)) 2 (.const (.bool true)) rfl rfl rfl rfl (built_step (jobL_len hgl) 19 true) ?_)
    | (refine stRowW rowStep rfl (.tmp 6) (.tmp 121) rfl (hR5.other (a := ⟨w.heap.size, 19, none⟩) (by show w1.heap.size ≠ w.heap.size; omega) _) stepZ_len (stepL_len (jobL_len hgl) 19 true) (stepL_one (jobL_one rfl HN1.out HF1.out) 19 true) rfl rfl ?_; intro w7 hb7 hoth7 hkp7 hsz7))
  refine bodyPost_ret (ret_cellRow rowStep Tryz.results29 (stepL_len (jobL_len hgl) 19 true) rfl hb7) rfl ?_
  have hl5' : (j.items ++ [(⟨7, 0, 0, 0, 0, 0, 0⟩ : Itm)]).length = j.items.length + 1 := by simp
  rw [hl5'] at hr5
  have hJ5 := HJ.out.item hr5 hg5
  have hJ6 := hJ5.move (TypedJ.away hB5 notJt_step 19 (.slice a5 (j.items.length + 1) c5))
  have hJ7 := hJ6.move (typedJ_others (hR5.other (a := ⟨w.heap.size, 19, none⟩) (by show w1.heap.size ≠ w.heap.size; omega) _) notJt_step hoth7 hsz7)
  have hK5 := (KeepJ.refl w.heap.size kW).grown HJ.out.items (Nat.le_refl _) (.inl rfl) hg5
  exact ⟨(hK5.set kW.size 19 _).newStore (Nat.le_of_lt (Nat.lt_of_le_of_lt (Nat.le_refl _) hlt)) kW.size hoth7 hkp7 hsz7, _, _, _, rfl, hJ7⟩
end Go.Proofs.YtaekeogaakogbaaGreatDoor
