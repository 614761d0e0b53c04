/- The document's geometry with a number more (tympanref43). -/
import Derived.Test.YtaekeogaakogbaaGreatDoorK3

import Derived.Great.Ranges

namespace Go.Proofs.YtaekeogaakogbaaGreatDoor

open Go.ChangeShapes Go.WideShapes Go.ChangeAt Go.RowKit Go.Shelf

/-- A struct by value that becomes a variable: the new world is named. -/
theorem boxRowW {ops : Array Oper} {rest : List Oper} {o : Oper} {a : Act} {w : World} {Q : Exit → Act → World → Prop} (hg : o.guard = none) {t : TypeId} (x : Operand) (ho : o.op = .box t x) {vs : List Value} (hx : a.eval x = .agg vs.toArray)
    (h : ∀ w1, Blk w1 w.heap.size vs t → (∀ {b : Nat} {cs : List Value} {t' : TypeId}, Blk w b cs t' → Blk w1 b cs t') → (∀ {W : World}, Kp W w → Kp W w1) → w.heap.size < w1.heap.size → wpList Tryz.prog ops Q rest (a.put o.dst (.pointer (some ⟨w.heap.size, 0, none⟩))) w1) : wpList Tryz.prog ops Q (o :: rest) a w :=
  Go.Great.wpList_boxTo hg t x ho _ rfl _ rfl vs.toArray (by rw [hx]; rfl) (h _ (Blk.newL rfl rfl) (fun hb => hb.alloc _) (fun k => k.alloc _) (by simp))
theorem rowGeom : RowT 25 19 := ⟨⟨_, Tryz.underlying25, rfl⟩, by kernel_rfl⟩
/-- A geometry's cells when there is none. -/
def geoZ : List Value := [.int .i64 0, .int .i64 0, .int .i64 0, .int .i64 0, .int .i64 0, .int .i64 0, .int .i64 0, .int .i64 0, .int .i64 0, .int .i64 0, .int .i64 0, .int .i64 0, .int .i64 0, .int .i64 0, .int .i64 0, .int .i64 0, .int .i64 0, .int .i64 0, .bool false]
theorem one_set {L : List Value} (h : ∀ v ∈ L, v.oneCell' = true) (k : Nat) (n : Int) : ∀ v ∈ L.set k (.int .i64 n), v.oneCell' = true := fun v hv => by
  rcases List.mem_or_eq_of_mem_set hv with h' | rfl
  · exact h v h'
  · rfl
set_option maxRecDepth 100000 in
set_option maxHeartbeats 8000000 in
theorem setGeom_0 (n : Int) (L M : List Value) (HU : Hid (∃ u, L[0]? = some u)) (HM : Hid (L.set 0 (.int .i64 n) = M)) (HL : Hid (M.length = 19)) (HS : Hid (∀ v ∈ M, v.oneCell' = true)) (w : World) :
    Calls Tryz.prog 69 #[.agg L.toArray, .int .i64 0, .int .i64 n] w fun e w' => e = .returned (.agg M.toArray) ∧ Kp w w' := by
  go_enter Tryz.func69, Tryz.ntmps69
  go_wp2_with (first
    | (refine boxRowW (vs := L) rfl (.tmp 0) rfl rfl ?_; intro w1 hB hoth hkp hlt; obtain ⟨u, hu⟩ := HU.out; have cB := hB.cell _ hu; have fB := hB.free 0; have kw1 : Kp w w1 := hkp (Kp.refl w); clear hu hoth hkp)
    | (refine ldRowAt rowGeom rfl (.tmp 3) rfl (vs := M) (by rw [← HM.out]; exact ((hB.set _ _).alloc _).range) HL.out rfl ?_)
    | (refine stRowW (vs := M) rowGeom rfl (.tmp 6) (.tmp 80) rfl (Blk.newL (b := w1.heap.size) (cs := geoZ) (by simp) rfl) rfl HL.out HS.out rfl rfl ?_; intro w5 hb5 hoth5 hkp5 hsz5))
  refine bodyPost_ret (ret_cellRow rowGeom Tryz.results69 HL.out rfl hb5) rfl ?_
  exact ⟨rfl, hkp5 (Nat.le_of_lt hlt) (show Kp w _ from (by (repeat (first | with_reducible assumption | with_reducible exact Kp.refl _ | with_reducible refine Kp.drew ?_ | with_reducible refine Kp.drewN ?_ _ | with_reducible refine Kp.alloc ?_ _ | ((with_reducible refine Kp.setCell ?_ ?_ _); rotate_left; (focus (first | omega | (simp; done) | (simp; omega)))) | with_reducible refine Kp.trans ?_ (by assumption)))))⟩
set_option maxRecDepth 100000 in
set_option maxHeartbeats 8000000 in
theorem setGeom_1 (n : Int) (L M : List Value) (HU : Hid (∃ u, L[1]? = some u)) (HM : Hid (L.set 1 (.int .i64 n) = M)) (HL : Hid (M.length = 19)) (HS : Hid (∀ v ∈ M, v.oneCell' = true)) (w : World) :
    Calls Tryz.prog 69 #[.agg L.toArray, .int .i64 1, .int .i64 n] w fun e w' => e = .returned (.agg M.toArray) ∧ Kp w w' := by
  go_enter Tryz.func69, Tryz.ntmps69
  go_wp2_with (first
    | (refine boxRowW (vs := L) rfl (.tmp 0) rfl rfl ?_; intro w1 hB hoth hkp hlt; obtain ⟨u, hu⟩ := HU.out; have cB := hB.cell _ hu; have fB := hB.free 1; have kw1 : Kp w w1 := hkp (Kp.refl w); clear hu hoth hkp)
    | (refine ldRowAt rowGeom rfl (.tmp 3) rfl (vs := M) (by rw [← HM.out]; exact ((hB.set _ _).alloc _).range) HL.out rfl ?_)
    | (refine stRowW (vs := M) rowGeom rfl (.tmp 6) (.tmp 80) rfl (Blk.newL (b := w1.heap.size) (cs := geoZ) (by simp) rfl) rfl HL.out HS.out rfl rfl ?_; intro w5 hb5 hoth5 hkp5 hsz5))
  refine bodyPost_ret (ret_cellRow rowGeom Tryz.results69 HL.out rfl hb5) rfl ?_
  exact ⟨rfl, hkp5 (Nat.le_of_lt hlt) (show Kp w _ from (by (repeat (first | with_reducible assumption | with_reducible exact Kp.refl _ | with_reducible refine Kp.drew ?_ | with_reducible refine Kp.drewN ?_ _ | with_reducible refine Kp.alloc ?_ _ | ((with_reducible refine Kp.setCell ?_ ?_ _); rotate_left; (focus (first | omega | (simp; done) | (simp; omega)))) | with_reducible refine Kp.trans ?_ (by assumption)))))⟩
set_option maxRecDepth 100000 in
set_option maxHeartbeats 8000000 in
theorem setGeom_2 (n : Int) (L M : List Value) (HU : Hid (∃ u, L[2]? = some u)) (HM : Hid (L.set 2 (.int .i64 n) = M)) (HL : Hid (M.length = 19)) (HS : Hid (∀ v ∈ M, v.oneCell' = true)) (w : World) :
    Calls Tryz.prog 69 #[.agg L.toArray, .int .i64 2, .int .i64 n] w fun e w' => e = .returned (.agg M.toArray) ∧ Kp w w' := by
  go_enter Tryz.func69, Tryz.ntmps69
  go_wp2_with (first
    | (refine boxRowW (vs := L) rfl (.tmp 0) rfl rfl ?_; intro w1 hB hoth hkp hlt; obtain ⟨u, hu⟩ := HU.out; have cB := hB.cell _ hu; have fB := hB.free 2; have kw1 : Kp w w1 := hkp (Kp.refl w); clear hu hoth hkp)
    | (refine ldRowAt rowGeom rfl (.tmp 3) rfl (vs := M) (by rw [← HM.out]; exact ((hB.set _ _).alloc _).range) HL.out rfl ?_)
    | (refine stRowW (vs := M) rowGeom rfl (.tmp 6) (.tmp 80) rfl (Blk.newL (b := w1.heap.size) (cs := geoZ) (by simp) rfl) rfl HL.out HS.out rfl rfl ?_; intro w5 hb5 hoth5 hkp5 hsz5))
  refine bodyPost_ret (ret_cellRow rowGeom Tryz.results69 HL.out rfl hb5) rfl ?_
  exact ⟨rfl, hkp5 (Nat.le_of_lt hlt) (show Kp w _ from (by (repeat (first | with_reducible assumption | with_reducible exact Kp.refl _ | with_reducible refine Kp.drew ?_ | with_reducible refine Kp.drewN ?_ _ | with_reducible refine Kp.alloc ?_ _ | ((with_reducible refine Kp.setCell ?_ ?_ _); rotate_left; (focus (first | omega | (simp; done) | (simp; omega)))) | with_reducible refine Kp.trans ?_ (by assumption)))))⟩
set_option maxRecDepth 100000 in
set_option maxHeartbeats 8000000 in
theorem setGeom_3 (n : Int) (L M : List Value) (HU : Hid (∃ u, L[3]? = some u)) (HM : Hid (L.set 3 (.int .i64 n) = M)) (HL : Hid (M.length = 19)) (HS : Hid (∀ v ∈ M, v.oneCell' = true)) (w : World) :
    Calls Tryz.prog 69 #[.agg L.toArray, .int .i64 3, .int .i64 n] w fun e w' => e = .returned (.agg M.toArray) ∧ Kp w w' := by
  go_enter Tryz.func69, Tryz.ntmps69
  go_wp2_with (first
    | (refine boxRowW (vs := L) rfl (.tmp 0) rfl rfl ?_; intro w1 hB hoth hkp hlt; obtain ⟨u, hu⟩ := HU.out; have cB := hB.cell _ hu; have fB := hB.free 3; have kw1 : Kp w w1 := hkp (Kp.refl w); clear hu hoth hkp)
    | (refine ldRowAt rowGeom rfl (.tmp 3) rfl (vs := M) (by rw [← HM.out]; exact ((hB.set _ _).alloc _).range) HL.out rfl ?_)
    | (refine stRowW (vs := M) rowGeom rfl (.tmp 6) (.tmp 80) rfl (Blk.newL (b := w1.heap.size) (cs := geoZ) (by simp) rfl) rfl HL.out HS.out rfl rfl ?_; intro w5 hb5 hoth5 hkp5 hsz5))
  refine bodyPost_ret (ret_cellRow rowGeom Tryz.results69 HL.out rfl hb5) rfl ?_
  exact ⟨rfl, hkp5 (Nat.le_of_lt hlt) (show Kp w _ from (by (repeat (first | with_reducible assumption | with_reducible exact Kp.refl _ | with_reducible refine Kp.drew ?_ | with_reducible refine Kp.drewN ?_ _ | with_reducible refine Kp.alloc ?_ _ | ((with_reducible refine Kp.setCell ?_ ?_ _); rotate_left; (focus (first | omega | (simp; done) | (simp; omega)))) | with_reducible refine Kp.trans ?_ (by assumption)))))⟩
set_option maxRecDepth 100000 in
set_option maxHeartbeats 8000000 in
theorem setGeom_4 (n : Int) (L M : List Value) (HU : Hid (∃ u, L[4]? = some u)) (HM : Hid (L.set 4 (.int .i64 n) = M)) (HL : Hid (M.length = 19)) (HS : Hid (∀ v ∈ M, v.oneCell' = true)) (w : World) :
    Calls Tryz.prog 69 #[.agg L.toArray, .int .i64 4, .int .i64 n] w fun e w' => e = .returned (.agg M.toArray) ∧ Kp w w' := by
  go_enter Tryz.func69, Tryz.ntmps69
  go_wp2_with (first
    | (refine boxRowW (vs := L) rfl (.tmp 0) rfl rfl ?_; intro w1 hB hoth hkp hlt; obtain ⟨u, hu⟩ := HU.out; have cB := hB.cell _ hu; have fB := hB.free 4; have kw1 : Kp w w1 := hkp (Kp.refl w); clear hu hoth hkp)
    | (refine ldRowAt rowGeom rfl (.tmp 3) rfl (vs := M) (by rw [← HM.out]; exact ((hB.set _ _).alloc _).range) HL.out rfl ?_)
    | (refine stRowW (vs := M) rowGeom rfl (.tmp 6) (.tmp 80) rfl (Blk.newL (b := w1.heap.size) (cs := geoZ) (by simp) rfl) rfl HL.out HS.out rfl rfl ?_; intro w5 hb5 hoth5 hkp5 hsz5))
  refine bodyPost_ret (ret_cellRow rowGeom Tryz.results69 HL.out rfl hb5) rfl ?_
  exact ⟨rfl, hkp5 (Nat.le_of_lt hlt) (show Kp w _ from (by (repeat (first | with_reducible assumption | with_reducible exact Kp.refl _ | with_reducible refine Kp.drew ?_ | with_reducible refine Kp.drewN ?_ _ | with_reducible refine Kp.alloc ?_ _ | ((with_reducible refine Kp.setCell ?_ ?_ _); rotate_left; (focus (first | omega | (simp; done) | (simp; omega)))) | with_reducible refine Kp.trans ?_ (by assumption)))))⟩
set_option maxRecDepth 100000 in
set_option maxHeartbeats 8000000 in
theorem setGeom_5 (n : Int) (L M : List Value) (HU : Hid (∃ u, L[5]? = some u)) (HM : Hid (L.set 5 (.int .i64 n) = M)) (HL : Hid (M.length = 19)) (HS : Hid (∀ v ∈ M, v.oneCell' = true)) (w : World) :
    Calls Tryz.prog 69 #[.agg L.toArray, .int .i64 5, .int .i64 n] w fun e w' => e = .returned (.agg M.toArray) ∧ Kp w w' := by
  go_enter Tryz.func69, Tryz.ntmps69
  go_wp2_with (first
    | (refine boxRowW (vs := L) rfl (.tmp 0) rfl rfl ?_; intro w1 hB hoth hkp hlt; obtain ⟨u, hu⟩ := HU.out; have cB := hB.cell _ hu; have fB := hB.free 5; have kw1 : Kp w w1 := hkp (Kp.refl w); clear hu hoth hkp)
    | (refine ldRowAt rowGeom rfl (.tmp 3) rfl (vs := M) (by rw [← HM.out]; exact ((hB.set _ _).alloc _).range) HL.out rfl ?_)
    | (refine stRowW (vs := M) rowGeom rfl (.tmp 6) (.tmp 80) rfl (Blk.newL (b := w1.heap.size) (cs := geoZ) (by simp) rfl) rfl HL.out HS.out rfl rfl ?_; intro w5 hb5 hoth5 hkp5 hsz5))
  refine bodyPost_ret (ret_cellRow rowGeom Tryz.results69 HL.out rfl hb5) rfl ?_
  exact ⟨rfl, hkp5 (Nat.le_of_lt hlt) (show Kp w _ from (by (repeat (first | with_reducible assumption | with_reducible exact Kp.refl _ | with_reducible refine Kp.drew ?_ | with_reducible refine Kp.drewN ?_ _ | with_reducible refine Kp.alloc ?_ _ | ((with_reducible refine Kp.setCell ?_ ?_ _); rotate_left; (focus (first | omega | (simp; done) | (simp; omega)))) | with_reducible refine Kp.trans ?_ (by assumption)))))⟩
set_option maxRecDepth 100000 in
set_option maxHeartbeats 8000000 in
theorem setGeom_6 (n : Int) (L M : List Value) (HU : Hid (∃ u, L[6]? = some u)) (HM : Hid (L.set 6 (.int .i64 n) = M)) (HL : Hid (M.length = 19)) (HS : Hid (∀ v ∈ M, v.oneCell' = true)) (w : World) :
    Calls Tryz.prog 69 #[.agg L.toArray, .int .i64 6, .int .i64 n] w fun e w' => e = .returned (.agg M.toArray) ∧ Kp w w' := by
  go_enter Tryz.func69, Tryz.ntmps69
  go_wp2_with (first
    | (refine boxRowW (vs := L) rfl (.tmp 0) rfl rfl ?_; intro w1 hB hoth hkp hlt; obtain ⟨u, hu⟩ := HU.out; have cB := hB.cell _ hu; have fB := hB.free 6; have kw1 : Kp w w1 := hkp (Kp.refl w); clear hu hoth hkp)
    | (refine ldRowAt rowGeom rfl (.tmp 3) rfl (vs := M) (by rw [← HM.out]; exact ((hB.set _ _).alloc _).range) HL.out rfl ?_)
    | (refine stRowW (vs := M) rowGeom rfl (.tmp 6) (.tmp 80) rfl (Blk.newL (b := w1.heap.size) (cs := geoZ) (by simp) rfl) rfl HL.out HS.out rfl rfl ?_; intro w5 hb5 hoth5 hkp5 hsz5))
  refine bodyPost_ret (ret_cellRow rowGeom Tryz.results69 HL.out rfl hb5) rfl ?_
  exact ⟨rfl, hkp5 (Nat.le_of_lt hlt) (show Kp w _ from (by (repeat (first | with_reducible assumption | with_reducible exact Kp.refl _ | with_reducible refine Kp.drew ?_ | with_reducible refine Kp.drewN ?_ _ | with_reducible refine Kp.alloc ?_ _ | ((with_reducible refine Kp.setCell ?_ ?_ _); rotate_left; (focus (first | omega | (simp; done) | (simp; omega)))) | with_reducible refine Kp.trans ?_ (by assumption)))))⟩
set_option maxRecDepth 100000 in
set_option maxHeartbeats 8000000 in
theorem setGeom_7 (n : Int) (L M : List Value) (HU : Hid (∃ u, L[7]? = some u)) (HM : Hid (L.set 7 (.int .i64 n) = M)) (HL : Hid (M.length = 19)) (HS : Hid (∀ v ∈ M, v.oneCell' = true)) (w : World) :
    Calls Tryz.prog 69 #[.agg L.toArray, .int .i64 7, .int .i64 n] w fun e w' => e = .returned (.agg M.toArray) ∧ Kp w w' := by
  go_enter Tryz.func69, Tryz.ntmps69
  go_wp2_with (first
    | (refine boxRowW (vs := L) rfl (.tmp 0) rfl rfl ?_; intro w1 hB hoth hkp hlt; obtain ⟨u, hu⟩ := HU.out; have cB := hB.cell _ hu; have fB := hB.free 7; have kw1 : Kp w w1 := hkp (Kp.refl w); clear hu hoth hkp)
    | (refine ldRowAt rowGeom rfl (.tmp 3) rfl (vs := M) (by rw [← HM.out]; exact ((hB.set _ _).alloc _).range) HL.out rfl ?_)
    | (refine stRowW (vs := M) rowGeom rfl (.tmp 6) (.tmp 80) rfl (Blk.newL (b := w1.heap.size) (cs := geoZ) (by simp) rfl) rfl HL.out HS.out rfl rfl ?_; intro w5 hb5 hoth5 hkp5 hsz5))
  refine bodyPost_ret (ret_cellRow rowGeom Tryz.results69 HL.out rfl hb5) rfl ?_
  exact ⟨rfl, hkp5 (Nat.le_of_lt hlt) (show Kp w _ from (by (repeat (first | with_reducible assumption | with_reducible exact Kp.refl _ | with_reducible refine Kp.drew ?_ | with_reducible refine Kp.drewN ?_ _ | with_reducible refine Kp.alloc ?_ _ | ((with_reducible refine Kp.setCell ?_ ?_ _); rotate_left; (focus (first | omega | (simp; done) | (simp; omega)))) | with_reducible refine Kp.trans ?_ (by assumption)))))⟩
set_option maxRecDepth 100000 in
set_option maxHeartbeats 8000000 in
theorem setGeom_8 (n : Int) (L M : List Value) (HU : Hid (∃ u, L[8]? = some u)) (HM : Hid (L.set 8 (.int .i64 n) = M)) (HL : Hid (M.length = 19)) (HS : Hid (∀ v ∈ M, v.oneCell' = true)) (w : World) :
    Calls Tryz.prog 69 #[.agg L.toArray, .int .i64 8, .int .i64 n] w fun e w' => e = .returned (.agg M.toArray) ∧ Kp w w' := by
  go_enter Tryz.func69, Tryz.ntmps69
  go_wp2_with (first
    | (refine boxRowW (vs := L) rfl (.tmp 0) rfl rfl ?_; intro w1 hB hoth hkp hlt; obtain ⟨u, hu⟩ := HU.out; have cB := hB.cell _ hu; have fB := hB.free 8; have kw1 : Kp w w1 := hkp (Kp.refl w); clear hu hoth hkp)
    | (refine ldRowAt rowGeom rfl (.tmp 3) rfl (vs := M) (by rw [← HM.out]; exact ((hB.set _ _).alloc _).range) HL.out rfl ?_)
    | (refine stRowW (vs := M) rowGeom rfl (.tmp 6) (.tmp 80) rfl (Blk.newL (b := w1.heap.size) (cs := geoZ) (by simp) rfl) rfl HL.out HS.out rfl rfl ?_; intro w5 hb5 hoth5 hkp5 hsz5))
  refine bodyPost_ret (ret_cellRow rowGeom Tryz.results69 HL.out rfl hb5) rfl ?_
  exact ⟨rfl, hkp5 (Nat.le_of_lt hlt) (show Kp w _ from (by (repeat (first | with_reducible assumption | with_reducible exact Kp.refl _ | with_reducible refine Kp.drew ?_ | with_reducible refine Kp.drewN ?_ _ | with_reducible refine Kp.alloc ?_ _ | ((with_reducible refine Kp.setCell ?_ ?_ _); rotate_left; (focus (first | omega | (simp; done) | (simp; omega)))) | with_reducible refine Kp.trans ?_ (by assumption)))))⟩
set_option maxRecDepth 100000 in
set_option maxHeartbeats 8000000 in
theorem setGeom_9 (n : Int) (L M : List Value) (HU : Hid (∃ u, L[9]? = some u)) (HM : Hid (L.set 9 (.int .i64 n) = M)) (HL : Hid (M.length = 19)) (HS : Hid (∀ v ∈ M, v.oneCell' = true)) (w : World) :
    Calls Tryz.prog 69 #[.agg L.toArray, .int .i64 9, .int .i64 n] w fun e w' => e = .returned (.agg M.toArray) ∧ Kp w w' := by
  go_enter Tryz.func69, Tryz.ntmps69
  go_wp2_with (first
    | (refine boxRowW (vs := L) rfl (.tmp 0) rfl rfl ?_; intro w1 hB hoth hkp hlt; obtain ⟨u, hu⟩ := HU.out; have cB := hB.cell _ hu; have fB := hB.free 9; have kw1 : Kp w w1 := hkp (Kp.refl w); clear hu hoth hkp)
    | (refine ldRowAt rowGeom rfl (.tmp 3) rfl (vs := M) (by rw [← HM.out]; exact ((hB.set _ _).alloc _).range) HL.out rfl ?_)
    | (refine stRowW (vs := M) rowGeom rfl (.tmp 6) (.tmp 80) rfl (Blk.newL (b := w1.heap.size) (cs := geoZ) (by simp) rfl) rfl HL.out HS.out rfl rfl ?_; intro w5 hb5 hoth5 hkp5 hsz5))
  refine bodyPost_ret (ret_cellRow rowGeom Tryz.results69 HL.out rfl hb5) rfl ?_
  exact ⟨rfl, hkp5 (Nat.le_of_lt hlt) (show Kp w _ from (by (repeat (first | with_reducible assumption | with_reducible exact Kp.refl _ | with_reducible refine Kp.drew ?_ | with_reducible refine Kp.drewN ?_ _ | with_reducible refine Kp.alloc ?_ _ | ((with_reducible refine Kp.setCell ?_ ?_ _); rotate_left; (focus (first | omega | (simp; done) | (simp; omega)))) | with_reducible refine Kp.trans ?_ (by assumption)))))⟩
set_option maxRecDepth 100000 in
set_option maxHeartbeats 8000000 in
theorem setGeom_10 (n : Int) (L M : List Value) (HU : Hid (∃ u, L[10]? = some u)) (HM : Hid (L.set 10 (.int .i64 n) = M)) (HL : Hid (M.length = 19)) (HS : Hid (∀ v ∈ M, v.oneCell' = true)) (w : World) :
    Calls Tryz.prog 69 #[.agg L.toArray, .int .i64 10, .int .i64 n] w fun e w' => e = .returned (.agg M.toArray) ∧ Kp w w' := by
  go_enter Tryz.func69, Tryz.ntmps69
  go_wp2_with (first
    | (refine boxRowW (vs := L) rfl (.tmp 0) rfl rfl ?_; intro w1 hB hoth hkp hlt; obtain ⟨u, hu⟩ := HU.out; have cB := hB.cell _ hu; have fB := hB.free 10; have kw1 : Kp w w1 := hkp (Kp.refl w); clear hu hoth hkp)
    | (refine ldRowAt rowGeom rfl (.tmp 3) rfl (vs := M) (by rw [← HM.out]; exact ((hB.set _ _).alloc _).range) HL.out rfl ?_)
    | (refine stRowW (vs := M) rowGeom rfl (.tmp 6) (.tmp 80) rfl (Blk.newL (b := w1.heap.size) (cs := geoZ) (by simp) rfl) rfl HL.out HS.out rfl rfl ?_; intro w5 hb5 hoth5 hkp5 hsz5))
  refine bodyPost_ret (ret_cellRow rowGeom Tryz.results69 HL.out rfl hb5) rfl ?_
  exact ⟨rfl, hkp5 (Nat.le_of_lt hlt) (show Kp w _ from (by (repeat (first | with_reducible assumption | with_reducible exact Kp.refl _ | with_reducible refine Kp.drew ?_ | with_reducible refine Kp.drewN ?_ _ | with_reducible refine Kp.alloc ?_ _ | ((with_reducible refine Kp.setCell ?_ ?_ _); rotate_left; (focus (first | omega | (simp; done) | (simp; omega)))) | with_reducible refine Kp.trans ?_ (by assumption)))))⟩
set_option maxRecDepth 100000 in
set_option maxHeartbeats 8000000 in
theorem setGeom_11 (n : Int) (L M : List Value) (HU : Hid (∃ u, L[11]? = some u)) (HM : Hid (L.set 11 (.int .i64 n) = M)) (HL : Hid (M.length = 19)) (HS : Hid (∀ v ∈ M, v.oneCell' = true)) (w : World) :
    Calls Tryz.prog 69 #[.agg L.toArray, .int .i64 11, .int .i64 n] w fun e w' => e = .returned (.agg M.toArray) ∧ Kp w w' := by
  go_enter Tryz.func69, Tryz.ntmps69
  go_wp2_with (first
    | (refine boxRowW (vs := L) rfl (.tmp 0) rfl rfl ?_; intro w1 hB hoth hkp hlt; obtain ⟨u, hu⟩ := HU.out; have cB := hB.cell _ hu; have fB := hB.free 11; have kw1 : Kp w w1 := hkp (Kp.refl w); clear hu hoth hkp)
    | (refine ldRowAt rowGeom rfl (.tmp 3) rfl (vs := M) (by rw [← HM.out]; exact ((hB.set _ _).alloc _).range) HL.out rfl ?_)
    | (refine stRowW (vs := M) rowGeom rfl (.tmp 6) (.tmp 80) rfl (Blk.newL (b := w1.heap.size) (cs := geoZ) (by simp) rfl) rfl HL.out HS.out rfl rfl ?_; intro w5 hb5 hoth5 hkp5 hsz5))
  refine bodyPost_ret (ret_cellRow rowGeom Tryz.results69 HL.out rfl hb5) rfl ?_
  exact ⟨rfl, hkp5 (Nat.le_of_lt hlt) (show Kp w _ from (by (repeat (first | with_reducible assumption | with_reducible exact Kp.refl _ | with_reducible refine Kp.drew ?_ | with_reducible refine Kp.drewN ?_ _ | with_reducible refine Kp.alloc ?_ _ | ((with_reducible refine Kp.setCell ?_ ?_ _); rotate_left; (focus (first | omega | (simp; done) | (simp; omega)))) | with_reducible refine Kp.trans ?_ (by assumption)))))⟩
set_option maxRecDepth 100000 in
set_option maxHeartbeats 8000000 in
theorem setGeom_12 (n : Int) (L M : List Value) (HU : Hid (∃ u, L[12]? = some u)) (HM : Hid (L.set 12 (.int .i64 n) = M)) (HL : Hid (M.length = 19)) (HS : Hid (∀ v ∈ M, v.oneCell' = true)) (w : World) :
    Calls Tryz.prog 69 #[.agg L.toArray, .int .i64 12, .int .i64 n] w fun e w' => e = .returned (.agg M.toArray) ∧ Kp w w' := by
  go_enter Tryz.func69, Tryz.ntmps69
  go_wp2_with (first
    | (refine boxRowW (vs := L) rfl (.tmp 0) rfl rfl ?_; intro w1 hB hoth hkp hlt; obtain ⟨u, hu⟩ := HU.out; have cB := hB.cell _ hu; have fB := hB.free 12; have kw1 : Kp w w1 := hkp (Kp.refl w); clear hu hoth hkp)
    | (refine ldRowAt rowGeom rfl (.tmp 3) rfl (vs := M) (by rw [← HM.out]; exact ((hB.set _ _).alloc _).range) HL.out rfl ?_)
    | (refine stRowW (vs := M) rowGeom rfl (.tmp 6) (.tmp 80) rfl (Blk.newL (b := w1.heap.size) (cs := geoZ) (by simp) rfl) rfl HL.out HS.out rfl rfl ?_; intro w5 hb5 hoth5 hkp5 hsz5))
  refine bodyPost_ret (ret_cellRow rowGeom Tryz.results69 HL.out rfl hb5) rfl ?_
  exact ⟨rfl, hkp5 (Nat.le_of_lt hlt) (show Kp w _ from (by (repeat (first | with_reducible assumption | with_reducible exact Kp.refl _ | with_reducible refine Kp.drew ?_ | with_reducible refine Kp.drewN ?_ _ | with_reducible refine Kp.alloc ?_ _ | ((with_reducible refine Kp.setCell ?_ ?_ _); rotate_left; (focus (first | omega | (simp; done) | (simp; omega)))) | with_reducible refine Kp.trans ?_ (by assumption)))))⟩
set_option maxRecDepth 100000 in
set_option maxHeartbeats 8000000 in
theorem setGeom_13 (n : Int) (L M : List Value) (HU : Hid (∃ u, L[13]? = some u)) (HM : Hid (L.set 13 (.int .i64 n) = M)) (HL : Hid (M.length = 19)) (HS : Hid (∀ v ∈ M, v.oneCell' = true)) (w : World) :
    Calls Tryz.prog 69 #[.agg L.toArray, .int .i64 13, .int .i64 n] w fun e w' => e = .returned (.agg M.toArray) ∧ Kp w w' := by
  go_enter Tryz.func69, Tryz.ntmps69
  go_wp2_with (first
    | (refine boxRowW (vs := L) rfl (.tmp 0) rfl rfl ?_; intro w1 hB hoth hkp hlt; obtain ⟨u, hu⟩ := HU.out; have cB := hB.cell _ hu; have fB := hB.free 13; have kw1 : Kp w w1 := hkp (Kp.refl w); clear hu hoth hkp)
    | (refine ldRowAt rowGeom rfl (.tmp 3) rfl (vs := M) (by rw [← HM.out]; exact ((hB.set _ _).alloc _).range) HL.out rfl ?_)
    | (refine stRowW (vs := M) rowGeom rfl (.tmp 6) (.tmp 80) rfl (Blk.newL (b := w1.heap.size) (cs := geoZ) (by simp) rfl) rfl HL.out HS.out rfl rfl ?_; intro w5 hb5 hoth5 hkp5 hsz5))
  refine bodyPost_ret (ret_cellRow rowGeom Tryz.results69 HL.out rfl hb5) rfl ?_
  exact ⟨rfl, hkp5 (Nat.le_of_lt hlt) (show Kp w _ from (by (repeat (first | with_reducible assumption | with_reducible exact Kp.refl _ | with_reducible refine Kp.drew ?_ | with_reducible refine Kp.drewN ?_ _ | with_reducible refine Kp.alloc ?_ _ | ((with_reducible refine Kp.setCell ?_ ?_ _); rotate_left; (focus (first | omega | (simp; done) | (simp; omega)))) | with_reducible refine Kp.trans ?_ (by assumption)))))⟩
set_option maxRecDepth 100000 in
set_option maxHeartbeats 8000000 in
theorem setGeom_14 (n : Int) (L M : List Value) (HU : Hid (∃ u, L[14]? = some u)) (HM : Hid (L.set 14 (.int .i64 n) = M)) (HL : Hid (M.length = 19)) (HS : Hid (∀ v ∈ M, v.oneCell' = true)) (w : World) :
    Calls Tryz.prog 69 #[.agg L.toArray, .int .i64 14, .int .i64 n] w fun e w' => e = .returned (.agg M.toArray) ∧ Kp w w' := by
  go_enter Tryz.func69, Tryz.ntmps69
  go_wp2_with (first
    | (refine boxRowW (vs := L) rfl (.tmp 0) rfl rfl ?_; intro w1 hB hoth hkp hlt; obtain ⟨u, hu⟩ := HU.out; have cB := hB.cell _ hu; have fB := hB.free 14; have kw1 : Kp w w1 := hkp (Kp.refl w); clear hu hoth hkp)
    | (refine ldRowAt rowGeom rfl (.tmp 3) rfl (vs := M) (by rw [← HM.out]; exact ((hB.set _ _).alloc _).range) HL.out rfl ?_)
    | (refine stRowW (vs := M) rowGeom rfl (.tmp 6) (.tmp 80) rfl (Blk.newL (b := w1.heap.size) (cs := geoZ) (by simp) rfl) rfl HL.out HS.out rfl rfl ?_; intro w5 hb5 hoth5 hkp5 hsz5))
  refine bodyPost_ret (ret_cellRow rowGeom Tryz.results69 HL.out rfl hb5) rfl ?_
  exact ⟨rfl, hkp5 (Nat.le_of_lt hlt) (show Kp w _ from (by (repeat (first | with_reducible assumption | with_reducible exact Kp.refl _ | with_reducible refine Kp.drew ?_ | with_reducible refine Kp.drewN ?_ _ | with_reducible refine Kp.alloc ?_ _ | ((with_reducible refine Kp.setCell ?_ ?_ _); rotate_left; (focus (first | omega | (simp; done) | (simp; omega)))) | with_reducible refine Kp.trans ?_ (by assumption)))))⟩
set_option maxRecDepth 100000 in
set_option maxHeartbeats 8000000 in
theorem setGeom_15 (n : Int) (L M : List Value) (HU : Hid (∃ u, L[15]? = some u)) (HM : Hid (L.set 15 (.int .i64 n) = M)) (HL : Hid (M.length = 19)) (HS : Hid (∀ v ∈ M, v.oneCell' = true)) (w : World) :
    Calls Tryz.prog 69 #[.agg L.toArray, .int .i64 15, .int .i64 n] w fun e w' => e = .returned (.agg M.toArray) ∧ Kp w w' := by
  go_enter Tryz.func69, Tryz.ntmps69
  go_wp2_with (first
    | (refine boxRowW (vs := L) rfl (.tmp 0) rfl rfl ?_; intro w1 hB hoth hkp hlt; obtain ⟨u, hu⟩ := HU.out; have cB := hB.cell _ hu; have fB := hB.free 15; have kw1 : Kp w w1 := hkp (Kp.refl w); clear hu hoth hkp)
    | (refine ldRowAt rowGeom rfl (.tmp 3) rfl (vs := M) (by rw [← HM.out]; exact ((hB.set _ _).alloc _).range) HL.out rfl ?_)
    | (refine stRowW (vs := M) rowGeom rfl (.tmp 6) (.tmp 80) rfl (Blk.newL (b := w1.heap.size) (cs := geoZ) (by simp) rfl) rfl HL.out HS.out rfl rfl ?_; intro w5 hb5 hoth5 hkp5 hsz5))
  refine bodyPost_ret (ret_cellRow rowGeom Tryz.results69 HL.out rfl hb5) rfl ?_
  exact ⟨rfl, hkp5 (Nat.le_of_lt hlt) (show Kp w _ from (by (repeat (first | with_reducible assumption | with_reducible exact Kp.refl _ | with_reducible refine Kp.drew ?_ | with_reducible refine Kp.drewN ?_ _ | with_reducible refine Kp.alloc ?_ _ | ((with_reducible refine Kp.setCell ?_ ?_ _); rotate_left; (focus (first | omega | (simp; done) | (simp; omega)))) | with_reducible refine Kp.trans ?_ (by assumption)))))⟩
set_option maxRecDepth 100000 in
set_option maxHeartbeats 8000000 in
theorem setGeom_16 (n : Int) (L M : List Value) (HU : Hid (∃ u, L[16]? = some u)) (HM : Hid (L.set 16 (.int .i64 n) = M)) (HL : Hid (M.length = 19)) (HS : Hid (∀ v ∈ M, v.oneCell' = true)) (w : World) :
    Calls Tryz.prog 69 #[.agg L.toArray, .int .i64 16, .int .i64 n] w fun e w' => e = .returned (.agg M.toArray) ∧ Kp w w' := by
  go_enter Tryz.func69, Tryz.ntmps69
  go_wp2_with (first
    | (refine boxRowW (vs := L) rfl (.tmp 0) rfl rfl ?_; intro w1 hB hoth hkp hlt; obtain ⟨u, hu⟩ := HU.out; have cB := hB.cell _ hu; have fB := hB.free 16; have kw1 : Kp w w1 := hkp (Kp.refl w); clear hu hoth hkp)
    | (refine ldRowAt rowGeom rfl (.tmp 3) rfl (vs := M) (by rw [← HM.out]; exact ((hB.set _ _).alloc _).range) HL.out rfl ?_)
    | (refine stRowW (vs := M) rowGeom rfl (.tmp 6) (.tmp 80) rfl (Blk.newL (b := w1.heap.size) (cs := geoZ) (by simp) rfl) rfl HL.out HS.out rfl rfl ?_; intro w5 hb5 hoth5 hkp5 hsz5))
  refine bodyPost_ret (ret_cellRow rowGeom Tryz.results69 HL.out rfl hb5) rfl ?_
  exact ⟨rfl, hkp5 (Nat.le_of_lt hlt) (show Kp w _ from (by (repeat (first | with_reducible assumption | with_reducible exact Kp.refl _ | with_reducible refine Kp.drew ?_ | with_reducible refine Kp.drewN ?_ _ | with_reducible refine Kp.alloc ?_ _ | ((with_reducible refine Kp.setCell ?_ ?_ _); rotate_left; (focus (first | omega | (simp; done) | (simp; omega)))) | with_reducible refine Kp.trans ?_ (by assumption)))))⟩
set_option maxRecDepth 100000 in
set_option maxHeartbeats 8000000 in
theorem setGeom_17 (n : Int) (L M : List Value) (HU : Hid (∃ u, L[17]? = some u)) (HM : Hid (L.set 17 (.int .i64 n) = M)) (HL : Hid (M.length = 19)) (HS : Hid (∀ v ∈ M, v.oneCell' = true)) (w : World) :
    Calls Tryz.prog 69 #[.agg L.toArray, .int .i64 17, .int .i64 n] w fun e w' => e = .returned (.agg M.toArray) ∧ Kp w w' := by
  go_enter Tryz.func69, Tryz.ntmps69
  go_wp2_with (first
    | (refine boxRowW (vs := L) rfl (.tmp 0) rfl rfl ?_; intro w1 hB hoth hkp hlt; obtain ⟨u, hu⟩ := HU.out; have cB := hB.cell _ hu; have fB := hB.free 17; have kw1 : Kp w w1 := hkp (Kp.refl w); clear hu hoth hkp)
    | (refine ldRowAt rowGeom rfl (.tmp 3) rfl (vs := M) (by rw [← HM.out]; exact ((hB.set _ _).alloc _).range) HL.out rfl ?_)
    | (refine stRowW (vs := M) rowGeom rfl (.tmp 6) (.tmp 80) rfl (Blk.newL (b := w1.heap.size) (cs := geoZ) (by simp) rfl) rfl HL.out HS.out rfl rfl ?_; intro w5 hb5 hoth5 hkp5 hsz5))
  refine bodyPost_ret (ret_cellRow rowGeom Tryz.results69 HL.out rfl hb5) rfl ?_
  exact ⟨rfl, hkp5 (Nat.le_of_lt hlt) (show Kp w _ from (by (repeat (first | with_reducible assumption | with_reducible exact Kp.refl _ | with_reducible refine Kp.drew ?_ | with_reducible refine Kp.drewN ?_ _ | with_reducible refine Kp.alloc ?_ _ | ((with_reducible refine Kp.setCell ?_ ?_ _); rotate_left; (focus (first | omega | (simp; done) | (simp; omega)))) | with_reducible refine Kp.trans ?_ (by assumption)))))⟩
theorem setGeom_any (L : List Value) (hL : L.length = 19) (h1 : ∀ v ∈ L, v.oneCell' = true) (k : Nat) (hk : k < 18) (n : Int) (w : World) :
    Calls Tryz.prog 69 #[.agg L.toArray, .int .i64 (k : Int), .int .i64 n] w fun e w' => e = .returned (.agg (L.set k (.int .i64 n)).toArray) ∧ Kp w w' := by
  have HU : Hid (∃ u, L[k]? = some u) := Lib.hid ⟨L[k], List.getElem?_eq_getElem (by omega)⟩
  have HS := Lib.hid (one_set h1 k n)
  have HL : Hid ((L.set k (.int .i64 n)).length = 19) := Lib.hid (by rw [List.length_set]; exact hL)
  match k, hk with
  | 0, _ => exact setGeom_0 n L _ HU (Lib.hid rfl) HL HS w
  | 1, _ => exact setGeom_1 n L _ HU (Lib.hid rfl) HL HS w
  | 2, _ => exact setGeom_2 n L _ HU (Lib.hid rfl) HL HS w
  | 3, _ => exact setGeom_3 n L _ HU (Lib.hid rfl) HL HS w
  | 4, _ => exact setGeom_4 n L _ HU (Lib.hid rfl) HL HS w
  | 5, _ => exact setGeom_5 n L _ HU (Lib.hid rfl) HL HS w
  | 6, _ => exact setGeom_6 n L _ HU (Lib.hid rfl) HL HS w
  | 7, _ => exact setGeom_7 n L _ HU (Lib.hid rfl) HL HS w
  | 8, _ => exact setGeom_8 n L _ HU (Lib.hid rfl) HL HS w
  | 9, _ => exact setGeom_9 n L _ HU (Lib.hid rfl) HL HS w
  | 10, _ => exact setGeom_10 n L _ HU (Lib.hid rfl) HL HS w
  | 11, _ => exact setGeom_11 n L _ HU (Lib.hid rfl) HL HS w
  | 12, _ => exact setGeom_12 n L _ HU (Lib.hid rfl) HL HS w
  | 13, _ => exact setGeom_13 n L _ HU (Lib.hid rfl) HL HS w
  | 14, _ => exact setGeom_14 n L _ HU (Lib.hid rfl) HL HS w
  | 15, _ => exact setGeom_15 n L _ HU (Lib.hid rfl) HL HS w
  | 16, _ => exact setGeom_16 n L _ HU (Lib.hid rfl) HL HS w
  | 17, _ => exact setGeom_17 n L _ HU (Lib.hid rfl) HL HS w
  | k + 18, h => exact absurd h (by omega)
end Go.Proofs.YtaekeogaakogbaaGreatDoor
