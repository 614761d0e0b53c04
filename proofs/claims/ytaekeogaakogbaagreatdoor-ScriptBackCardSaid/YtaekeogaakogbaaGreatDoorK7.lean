/- The document's head (tympanref43). -/
import Derived.Test.YtaekeogaakogbaaGreatDoorK6

namespace Go.Proofs.YtaekeogaakogbaaGreatDoor

open Go.ChangeShapes Go.WideShapes Go.ChangeAt Go.RowKit Go.Shelf

theorem stepL_22 {J : List Value} (h : J.length = 22) (last : Int) (ok : Bool) : (stepL J last ok)[22]? = some (.int .i64 last) := by
  unfold stepL; rw [List.getElem?_append_right (by omega), h]; rfl
theorem stepL_get {J : List Value} {k : Nat} {u : Value} (h : J[k]? = some u) (last : Int) (ok : Bool) : (stepL J last ok)[k]? = some u := by
  unfold stepL; rw [List.getElem?_append_left (List.getElem?_eq_some_iff.1 h).1]; exact h
theorem stepL_set {J : List Value} (h : J.length = 22) (last : Int) (ok : Bool) {k : Nat} (hk : k < 22) (u : Value) : (stepL J last ok).set k u = stepL (J.set k u) last ok := by
  unfold stepL; rw [List.set_append_left _ _ (by omega)]
theorem stepL_range {w : World} {b : Nat} {J : List Value} {last : Int} {ok : Bool} {t : TypeId} (h : Blk w b (stepL J last ok) t) : w.rangeAt b 0 J := fun j v hv => by
  rw [Nat.zero_add]; exact h.cell j (stepL_get hv last ok)
/-- What the head's line makes of a step. -/
def HeadEnd (j : JobD) (iv nv fv : Value) (last : Int) (k : Nat) (ns : List Int) (w : World) (e : Ending) (w' : World) : Prop := Kp w w' ∧
  e = .returned (.agg (match headD j last k ns with
    | none => stepZ
    | some j' => stepL (jobL j'.g j'.bal iv nv fv) k true).toArray)
set_option maxRecDepth 100000 in
set_option maxHeartbeats 8000000 in
theorem head43_bad (X : List Value) (last : Int) (hl : X[22]? = some (.int .i64 last)) (k : Nat) (a : Option Addr) (m c : Nat) (hbad : (k : Int) ≤ last ∨ (k < 18 ∧ m ≠ 1) ∨ (k = 18 ∧ m ≠ 0)) (hk : k ≤ 18) (w : World) :
    Calls Tryz.prog 28 #[.agg X.toArray, .int .i64 (k : Int), .slice a m c] w fun e w' => e = .returned (.agg stepZ.toArray) ∧ Kp w w' := by
  have HL := Lib.hid hl
  by_cases h1 : (k : Int) ≤ last
  · have j1 : decide ((k : Int) ≤ last) = true := decide_eq_true h1
    clear hl hbad
    go_enter Tryz.func28, Tryz.ntmps28
    go_wp2_with (first
      | (refine boxRowW (vs := X) rfl (.tmp 0) rfl rfl ?_; intro w1 hB hoth hkp hlt; have c22 := hB.cell _ HL.out; have kw1 : Kp w w1 := hkp (Kp.refl w); clear hoth hkp)
      | (refine stRowW (vs := stepZ) rowStep rfl (.tmp 6) (.tmp 29) rfl (Blk.newL (b := w1.heap.size) (cs := stepZ) (by simp) rfl) rfl rfl stepZ_one rfl rfl ?_; intro w5 hb5 hoth5 hkp5 hsz5))
    refine bodyPost_ret (ret_cellRow rowStep Tryz.results28 stepZ_len rfl hb5) rfl ?_
    exact ⟨rfl, hkp5 (Nat.le_of_lt hlt) (show Kp w _ from (by (repeat (first | with_reducible assumption | with_reducible exact Kp.refl _ | with_reducible refine Kp.drew ?_ | with_reducible refine Kp.drewN ?_ _ | with_reducible refine Kp.alloc ?_ _ | ((with_reducible refine Kp.setCell ?_ ?_ _); rotate_left; (focus (first | omega | (simp; done) | (simp; omega)))) | with_reducible refine Kp.trans ?_ (by assumption)))))⟩
  · have j1 : decide ((k : Int) ≤ last) = false := decide_eq_false h1
    by_cases h2 : k < 18
    · have j2 : decide ((k : Int) < 18) = true := decide_eq_true (by omega)
      have j2' : decide (k < 18) = true := decide_eq_true h2
      have j3 : ((m : Int) == 1) = false := beq_eq_false_iff_ne.2 (by omega)
      have j3' : (m == 1) = false := beq_eq_false_iff_ne.2 (by omega)
      clear hl hbad
      go_enter Tryz.func28, Tryz.ntmps28
      go_wp2_with (first
        | (refine boxRowW (vs := X) rfl (.tmp 0) rfl rfl ?_; intro w1 hB hoth hkp hlt; have c22 := hB.cell _ HL.out; have kw1 : Kp w w1 := hkp (Kp.refl w); clear hoth hkp)
        | (refine stRowW (vs := stepZ) rowStep rfl (.tmp 6) (.tmp 29) rfl (Blk.newL (b := w1.heap.size) (cs := stepZ) (by simp) rfl) rfl rfl stepZ_one rfl rfl ?_; intro w5 hb5 hoth5 hkp5 hsz5))
      refine bodyPost_ret (ret_cellRow rowStep Tryz.results28 stepZ_len rfl hb5) rfl ?_
      exact ⟨rfl, hkp5 (Nat.le_of_lt hlt) (show Kp w _ from (by (repeat (first | with_reducible assumption | with_reducible exact Kp.refl _ | with_reducible refine Kp.drew ?_ | with_reducible refine Kp.drewN ?_ _ | with_reducible refine Kp.alloc ?_ _ | ((with_reducible refine Kp.setCell ?_ ?_ _); rotate_left; (focus (first | omega | (simp; done) | (simp; omega)))) | with_reducible refine Kp.trans ?_ (by assumption)))))⟩
    · obtain rfl : k = 18 := by omega
      have hm0 : m ≠ 0 := by omega
      have hmi : ¬ (m : Int) = 0 := by omega
      have j3 : ((m : Int) == 0) = false := beq_eq_false_iff_ne.2 (by omega)
      have j3' : (m == 0) = false := beq_eq_false_iff_ne.2 (by omega)
      have j4 : ((m : Int) != 0) = true := by unfold bne; rw [j3]; rfl
      have j1' : decide ((18 : Int) ≤ last) = false := decide_eq_false (by omega)
      have j5 : last < 18 := by omega
      clear h1 j1 hk h2
      clear hl hbad
      go_enter Tryz.func28, Tryz.ntmps28
      go_wp2_with (first
        | (refine boxRowW (vs := X) rfl (.tmp 0) rfl rfl ?_; intro w1 hB hoth hkp hlt; have c22 := hB.cell _ HL.out; have kw1 : Kp w w1 := hkp (Kp.refl w); clear hoth hkp)
        | (refine stRowW (vs := stepZ) rowStep rfl (.tmp 6) (.tmp 29) rfl (Blk.newL (b := w1.heap.size) (cs := stepZ) (by simp) rfl) rfl rfl stepZ_one rfl rfl ?_; intro w5 hb5 hoth5 hkp5 hsz5))
      refine bodyPost_ret (ret_cellRow rowStep Tryz.results28 stepZ_len rfl hb5) rfl ?_
      exact ⟨rfl, hkp5 (Nat.le_of_lt hlt) (show Kp w _ from (by (repeat (first | with_reducible assumption | with_reducible exact Kp.refl _ | with_reducible refine Kp.drew ?_ | with_reducible refine Kp.drewN ?_ _ | with_reducible refine Kp.alloc ?_ _ | ((with_reducible refine Kp.setCell ?_ ?_ _); rotate_left; (focus (first | omega | (simp; done) | (simp; omega)))) | with_reducible refine Kp.trans ?_ (by assumption)))))⟩
set_option maxRecDepth 100000 in
set_option maxHeartbeats 8000000 in
theorem head43_bal (J : List Value) (hJ : J.length = 22) (h1 : ∀ v ∈ J, v.oneCell' = true) (b0 : Bool) (h18 : J[18]? = some (.bool b0)) (last : Int) (hlast : last < 18) (ok : Bool) (a : Option Addr) (c : Nat) (w : World) :
    Calls Tryz.prog 28 #[.agg (stepL J last ok).toArray, .int .i64 18, .slice a 0 c] w fun e w' => e = .returned (.agg (stepL (J.set 18 (.bool true)) 18 true).toArray) ∧ Kp w w' := by
  have HL := Lib.hid (stepL_22 hJ last ok)
  have H18 := Lib.hid (stepL_get h18 last ok)
  have j1 : decide ((18 : Int) ≤ last) = false := decide_eq_false (by omega)
  obtain ⟨X, hX⟩ : ∃ X, stepL J last ok = X := ⟨_, rfl⟩
  have HXS : Hid (X.set 18 (.bool true) = stepL (J.set 18 (.bool true)) last ok) := Lib.hid (by rw [← hX, stepL_set hJ _ _ (by omega)])
  have HM : Hid ((J.set 18 (.bool true)).length = 22) := Lib.hid (by rw [List.length_set]; exact hJ)
  have HO : Hid (∀ v ∈ J.set 18 (.bool true), v.oneCell' = true) := Lib.hid fun v hv => by
    rcases List.mem_or_eq_of_mem_set hv with h' | rfl
    · exact h1 v h'
    · rfl
  obtain ⟨M, hMM⟩ : ∃ M, J.set 18 (.bool true) = M := ⟨_, rfl⟩
  rw [hX] at HL H18 ⊢
  rw [hMM] at HXS HM HO ⊢
  have HBD := Lib.hid (built_step HM.out 18 true)
  obtain ⟨R, hR⟩ : ∃ R, stepL M 18 true = R := ⟨_, rfl⟩
  have HRL : Hid (R.length = 24) := Lib.hid (by rw [← hR]; exact stepL_len HM.out _ _)
  have HRO : Hid (∀ v ∈ R, v.oneCell' = true) := Lib.hid (by rw [← hR]; exact stepL_one HO.out _ _)
  rw [hR] at HBD ⊢
  clear hX hMM h1 h18 hJ hR hlast
  go_enter Tryz.func28, Tryz.ntmps28
  go_wp2_with (first
    | (refine boxRowW (vs := X) rfl (.tmp 0) rfl rfl ?_; intro w1 hB hoth hkp hlt; have c22 := hB.cell _ HL.out; have c18 := hB.cell _ H18.out; have f18 := hB.free 18; have kw1 : Kp w w1 := hkp (Kp.refl w); clear hoth hkp)
    | (refine ldRowAt rowJob rfl (.tmp 50) rfl (vs := M) (stepL_range (last := last) (ok := ok) (t := 54) (by rw [← HXS.out]; exact (hB.set _ _).alloc _)) HM.out rfl ?_)
    | (refine bdRow3 rfl 54 0 (.tmp 51) 1 (.tmp 52) 2 (.const (.bool true)) rfl rfl rfl rfl HBD.out ?_)
    | (refine stRowW (vs := R) rowStep rfl (.tmp 6) (.tmp 53) rfl (Blk.newL (b := w1.heap.size) (cs := stepZ) (by simp) rfl) rfl HRL.out HRO.out rfl rfl ?_; intro w5 hb5 hoth5 hkp5 hsz5))
  refine bodyPost_ret (ret_cellRow rowStep Tryz.results28 HRL.out rfl hb5) rfl ?_
  exact ⟨rfl, hkp5 (Nat.le_of_lt hlt) (show Kp w _ from (by (repeat (first | with_reducible assumption | with_reducible exact Kp.refl _ | with_reducible refine Kp.drew ?_ | with_reducible refine Kp.drewN ?_ _ | with_reducible refine Kp.alloc ?_ _ | ((with_reducible refine Kp.setCell ?_ ?_ _); rotate_left; (focus (first | omega | (simp; done) | (simp; omega)))) | with_reducible refine Kp.trans ?_ (by assumption)))))⟩
set_option maxRecDepth 100000 in
set_option maxHeartbeats 8000000 in
theorem head43_zero (X : List Value) (last : Int) (hl : X[22]? = some (.int .i64 last)) (k : Nat) (hk : k < 18) (hlast : last < (k : Int)) (B : Nat) (a : Option Addr) (c : Nat) (w : World) (hr : Row w B 2 1 enc1 (.slice a 1 c) [0]) :
    Calls Tryz.prog 28 #[.agg X.toArray, .int .i64 (k : Int), .slice a 1 c] w fun e w' => e = .returned (.agg stepZ.toArray) ∧ Kp w w' := by
  obtain ⟨g, rfl, hg, -, hmc, hcm, hcell, -⟩ := int_row hr (by simp)
  have d0 := hcell 0 0 rfl
  have HL := Lib.hid hl
  have j1 : decide ((k : Int) ≤ last) = false := decide_eq_false (by omega)
  have j2 : decide ((k : Int) < 18) = true := decide_eq_true (by omega)
  have j2' : decide (k < 18) = true := decide_eq_true hk
  have j3 : ((k : Int) == 18) = false := beq_eq_false_iff_ne.2 (by omega)
  have j3' : (k == 18) = false := beq_eq_false_iff_ne.2 (by omega)
  clear hl hr hcell
  go_enter Tryz.func28, Tryz.ntmps28
  go_wp2_with (first
    | (refine boxRowW (vs := X) rfl (.tmp 0) rfl rfl ?_; intro w1 hB hoth hkp hlt; have c22 := hB.cell _ HL.out; have kw1 : Kp w w1 := hkp (Kp.refl w); have e0 := (kw1.cell (p := ⟨g, 0, none⟩) hg).trans d0; have hg1 := Nat.lt_of_lt_of_le hg kw1.size; clear hoth hkp d0)
    | (refine stRowW (vs := stepZ) rowStep rfl (.tmp 6) (.tmp 39) rfl (Blk.newL (b := w1.heap.size) (cs := stepZ) (by simp) rfl) rfl rfl stepZ_one rfl rfl ?_; intro w5 hb5 hoth5 hkp5 hsz5))
  refine bodyPost_ret (ret_cellRow rowStep Tryz.results28 stepZ_len rfl hb5) rfl ?_
  exact ⟨rfl, hkp5 (Nat.le_of_lt hlt) (show Kp w _ from (by (repeat (first | with_reducible assumption | with_reducible exact Kp.refl _ | with_reducible refine Kp.drew ?_ | with_reducible refine Kp.drewN ?_ _ | with_reducible refine Kp.alloc ?_ _ | ((with_reducible refine Kp.setCell ?_ ?_ _); rotate_left; (focus (first | omega | (simp; done) | (simp; omega)))) | with_reducible refine Kp.trans ?_ (by assumption)))))⟩
end Go.Proofs.YtaekeogaakogbaaGreatDoor
