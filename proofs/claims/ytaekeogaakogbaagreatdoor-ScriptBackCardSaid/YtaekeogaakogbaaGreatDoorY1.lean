/- Part of the proof: The document's items (tympanref43.add): wrong counts. Printed by wip/g43h.py. The document's places and the program's verbs, plain. The document's items (tympanref43.add): any item's line, against the program's plain form of it. A line of the document (tympanref43.one), against the program's plain form of it. The document's Read of a script (tympanref43.Read), of any text. -/
import Derived.Test.YtaekeogaakogbaaGreatDoorK10
import Derived.Test.YtaekeogaakogbaaGreatDoorK9
import Derived.Test.YtaekeogaakogbaaGreatDoorK11
import Derived.Test.YtaekeogaakogbaaGreatDoorK12
import Derived.Test.YtaekeogaakogbaaGreatDoorK16
namespace Go.Proofs.YtaekeogaakogbaaGreatDoor

open Go.ChangeShapes Go.WideShapes Go.ChangeAt Go.RowKit Go.Shelf

set_option maxRecDepth 100000 in
set_option maxHeartbeats 8000000 in
theorem add43_bad19 (X : List Value) (a : Option Addr) (m c : Nat) (hm : m ≠ 2) (w : World) :
    Calls Tryz.prog 29 #[.agg X.toArray, .int .i64 19, .slice a m c] w fun e w' => e = .returned (.agg stepZ.toArray) ∧ Kp w w' := by
  have hmi : ¬ (m : Int) = 2 := by omega
  have j1 : ((m : Int) == 2) = false := beq_eq_false_iff_ne.2 hmi
  have j2 : (m == 2) = false := beq_eq_false_iff_ne.2 hm
  have j3 : ((m : Int) != 2) = true := by unfold bne; rw [j1]; rfl
  go_enter Tryz.func29, Tryz.ntmps29
  go_wp2_with (first
    | (refine boxRowW (vs := X) rfl (.tmp 0) rfl rfl ?_; intro w1 hB hoth hkp hlt; have kw1 : Kp w w1 := hkp (Kp.refl w); clear hoth hkp)
    | (refine stRowW (vs := manyL) rowMany rfl (.tmp 7) (.tmp 9) rfl (Blk.newL (cs := manyZ) (by simp) rfl) rfl rfl manyL_one rfl rfl ?_; intro wM hbM hothM hkpM hszM; have hRM := hothM (b' := w1.heap.size) (cs := stepZ) (t' := 54) (by omega) (Blk.alloc (Blk.newL rfl rfl) _); have k1M : Kp w1 wM := hkpM (Nat.le_succ _) (show Kp w1 _ from (by (repeat (first | with_reducible assumption | with_reducible exact Kp.refl _ | with_reducible refine Kp.drew ?_ | with_reducible refine Kp.drewN ?_ _ | with_reducible refine Kp.alloc ?_ _ | ((with_reducible refine Kp.setCell ?_ ?_ _); rotate_left; (focus (first | omega | (simp; done) | (simp; omega)))) | with_reducible refine Kp.trans ?_ (by assumption))))); have mat := hbM.cell 19 rfl; have kwM : Kp w wM := kw1.trans k1M; clear hothM hkpM hszM)
    | (refine stRowW (vs := stepZ) rowStep rfl (.tmp 6) (.tmp 30) rfl hRM rfl rfl stepZ_one rfl rfl ?_; intro w5 hb5 hoth5 hkp5 hsz5))
  refine bodyPost_ret (ret_cellRow rowStep Tryz.results29 stepZ_len rfl hb5) rfl ?_
  exact ⟨rfl, hkp5 (Nat.le_of_lt hlt) kwM⟩
set_option maxRecDepth 100000 in
set_option maxHeartbeats 8000000 in
theorem add43_bad20 (X : List Value) (a : Option Addr) (m c : Nat) (hm : m ≠ 4) (w : World) :
    Calls Tryz.prog 29 #[.agg X.toArray, .int .i64 20, .slice a m c] w fun e w' => e = .returned (.agg stepZ.toArray) ∧ Kp w w' := by
  have hmi : ¬ (m : Int) = 4 := by omega
  have j1 : ((m : Int) == 4) = false := beq_eq_false_iff_ne.2 hmi
  have j2 : (m == 4) = false := beq_eq_false_iff_ne.2 hm
  have j3 : ((m : Int) != 4) = true := by unfold bne; rw [j1]; rfl
  go_enter Tryz.func29, Tryz.ntmps29
  go_wp2_with (first
    | (refine boxRowW (vs := X) rfl (.tmp 0) rfl rfl ?_; intro w1 hB hoth hkp hlt; have kw1 : Kp w w1 := hkp (Kp.refl w); clear hoth hkp)
    | (refine stRowW (vs := manyL) rowMany rfl (.tmp 7) (.tmp 9) rfl (Blk.newL (cs := manyZ) (by simp) rfl) rfl rfl manyL_one rfl rfl ?_; intro wM hbM hothM hkpM hszM; have hRM := hothM (b' := w1.heap.size) (cs := stepZ) (t' := 54) (by omega) (Blk.alloc (Blk.newL rfl rfl) _); have k1M : Kp w1 wM := hkpM (Nat.le_succ _) (show Kp w1 _ from (by (repeat (first | with_reducible assumption | with_reducible exact Kp.refl _ | with_reducible refine Kp.drew ?_ | with_reducible refine Kp.drewN ?_ _ | with_reducible refine Kp.alloc ?_ _ | ((with_reducible refine Kp.setCell ?_ ?_ _); rotate_left; (focus (first | omega | (simp; done) | (simp; omega)))) | with_reducible refine Kp.trans ?_ (by assumption))))); have mat := hbM.cell 20 rfl; have kwM : Kp w wM := kw1.trans k1M; clear hothM hkpM hszM)
    | (refine stRowW (vs := stepZ) rowStep rfl (.tmp 6) (.tmp 30) rfl hRM rfl rfl stepZ_one rfl rfl ?_; intro w5 hb5 hoth5 hkp5 hsz5))
  refine bodyPost_ret (ret_cellRow rowStep Tryz.results29 stepZ_len rfl hb5) rfl ?_
  exact ⟨rfl, hkp5 (Nat.le_of_lt hlt) kwM⟩
set_option maxRecDepth 100000 in
set_option maxHeartbeats 8000000 in
theorem add43_bad21 (X : List Value) (a : Option Addr) (m c : Nat) (hm : m ≠ 1) (w : World) :
    Calls Tryz.prog 29 #[.agg X.toArray, .int .i64 21, .slice a m c] w fun e w' => e = .returned (.agg stepZ.toArray) ∧ Kp w w' := by
  have hmi : ¬ (m : Int) = 1 := by omega
  have j1 : ((m : Int) == 1) = false := beq_eq_false_iff_ne.2 hmi
  have j2 : (m == 1) = false := beq_eq_false_iff_ne.2 hm
  have j3 : ((m : Int) != 1) = true := by unfold bne; rw [j1]; rfl
  go_enter Tryz.func29, Tryz.ntmps29
  go_wp2_with (first
    | (refine boxRowW (vs := X) rfl (.tmp 0) rfl rfl ?_; intro w1 hB hoth hkp hlt; have kw1 : Kp w w1 := hkp (Kp.refl w); clear hoth hkp)
    | (refine stRowW (vs := manyL) rowMany rfl (.tmp 7) (.tmp 9) rfl (Blk.newL (cs := manyZ) (by simp) rfl) rfl rfl manyL_one rfl rfl ?_; intro wM hbM hothM hkpM hszM; have hRM := hothM (b' := w1.heap.size) (cs := stepZ) (t' := 54) (by omega) (Blk.alloc (Blk.newL rfl rfl) _); have k1M : Kp w1 wM := hkpM (Nat.le_succ _) (show Kp w1 _ from (by (repeat (first | with_reducible assumption | with_reducible exact Kp.refl _ | with_reducible refine Kp.drew ?_ | with_reducible refine Kp.drewN ?_ _ | with_reducible refine Kp.alloc ?_ _ | ((with_reducible refine Kp.setCell ?_ ?_ _); rotate_left; (focus (first | omega | (simp; done) | (simp; omega)))) | with_reducible refine Kp.trans ?_ (by assumption))))); have mat := hbM.cell 21 rfl; have kwM : Kp w wM := kw1.trans k1M; clear hothM hkpM hszM)
    | (refine stRowW (vs := stepZ) rowStep rfl (.tmp 6) (.tmp 30) rfl hRM rfl rfl stepZ_one rfl rfl ?_; intro w5 hb5 hoth5 hkp5 hsz5))
  refine bodyPost_ret (ret_cellRow rowStep Tryz.results29 stepZ_len rfl hb5) rfl ?_
  exact ⟨rfl, hkp5 (Nat.le_of_lt hlt) kwM⟩
set_option maxRecDepth 100000 in
set_option maxHeartbeats 8000000 in
theorem add43_bad22 (X : List Value) (a : Option Addr) (m c : Nat) (hm : m ≠ 1) (w : World) :
    Calls Tryz.prog 29 #[.agg X.toArray, .int .i64 22, .slice a m c] w fun e w' => e = .returned (.agg stepZ.toArray) ∧ Kp w w' := by
  have hmi : ¬ (m : Int) = 1 := by omega
  have j1 : ((m : Int) == 1) = false := beq_eq_false_iff_ne.2 hmi
  have j2 : (m == 1) = false := beq_eq_false_iff_ne.2 hm
  have j3 : ((m : Int) != 1) = true := by unfold bne; rw [j1]; rfl
  go_enter Tryz.func29, Tryz.ntmps29
  go_wp2_with (first
    | (refine boxRowW (vs := X) rfl (.tmp 0) rfl rfl ?_; intro w1 hB hoth hkp hlt; have kw1 : Kp w w1 := hkp (Kp.refl w); clear hoth hkp)
    | (refine stRowW (vs := manyL) rowMany rfl (.tmp 7) (.tmp 9) rfl (Blk.newL (cs := manyZ) (by simp) rfl) rfl rfl manyL_one rfl rfl ?_; intro wM hbM hothM hkpM hszM; have hRM := hothM (b' := w1.heap.size) (cs := stepZ) (t' := 54) (by omega) (Blk.alloc (Blk.newL rfl rfl) _); have k1M : Kp w1 wM := hkpM (Nat.le_succ _) (show Kp w1 _ from (by (repeat (first | with_reducible assumption | with_reducible exact Kp.refl _ | with_reducible refine Kp.drew ?_ | with_reducible refine Kp.drewN ?_ _ | with_reducible refine Kp.alloc ?_ _ | ((with_reducible refine Kp.setCell ?_ ?_ _); rotate_left; (focus (first | omega | (simp; done) | (simp; omega)))) | with_reducible refine Kp.trans ?_ (by assumption))))); have mat := hbM.cell 22 rfl; have kwM : Kp w wM := kw1.trans k1M; clear hothM hkpM hszM)
    | (refine stRowW (vs := stepZ) rowStep rfl (.tmp 6) (.tmp 30) rfl hRM rfl rfl stepZ_one rfl rfl ?_; intro w5 hb5 hoth5 hkp5 hsz5))
  refine bodyPost_ret (ret_cellRow rowStep Tryz.results29 stepZ_len rfl hb5) rfl ?_
  exact ⟨rfl, hkp5 (Nat.le_of_lt hlt) kwM⟩
set_option maxRecDepth 100000 in
set_option maxHeartbeats 8000000 in
theorem add43_bad23 (X : List Value) (a : Option Addr) (m c : Nat) (hm : m % 2 = 0) (w : World) :
    Calls Tryz.prog 29 #[.agg X.toArray, .int .i64 23, .slice a m c] w fun e w' => e = .returned (.agg stepZ.toArray) ∧ Kp w w' := by
  have j1 : ((m : Int).tmod 2 == 0) = true := beq_iff_eq.2 (by rw [Int.tmod_eq_emod_of_nonneg (by omega)]; omega)
  go_enter Tryz.func29, Tryz.ntmps29
  go_wp2_with (first
    | (refine boxRowW (vs := X) rfl (.tmp 0) rfl rfl ?_; intro w1 hB hoth hkp hlt; have kw1 : Kp w w1 := hkp (Kp.refl w); clear hoth hkp)
    | (refine stRowW (vs := manyL) rowMany rfl (.tmp 7) (.tmp 9) rfl (Blk.newL (cs := manyZ) (by simp) rfl) rfl rfl manyL_one rfl rfl ?_; intro wM hbM hothM hkpM hszM; have hRM := hothM (b' := w1.heap.size) (cs := stepZ) (t' := 54) (by omega) (Blk.alloc (Blk.newL rfl rfl) _); have k1M : Kp w1 wM := hkpM (Nat.le_succ _) (show Kp w1 _ from (by (repeat (first | with_reducible assumption | with_reducible exact Kp.refl _ | with_reducible refine Kp.drew ?_ | with_reducible refine Kp.drewN ?_ _ | with_reducible refine Kp.alloc ?_ _ | ((with_reducible refine Kp.setCell ?_ ?_ _); rotate_left; (focus (first | omega | (simp; done) | (simp; omega)))) | with_reducible refine Kp.trans ?_ (by assumption))))); have mat := hbM.cell 23 rfl; have kwM : Kp w wM := kw1.trans k1M; clear hothM hkpM hszM)
    | (refine stRowW (vs := stepZ) rowStep rfl (.tmp 6) (.tmp 30) rfl hRM rfl rfl stepZ_one rfl rfl ?_; intro w5 hb5 hoth5 hkp5 hsz5))
  refine bodyPost_ret (ret_cellRow rowStep Tryz.results29 stepZ_len rfl hb5) rfl ?_
  exact ⟨rfl, hkp5 (Nat.le_of_lt hlt) kwM⟩
set_option maxRecDepth 100000 in
set_option maxHeartbeats 8000000 in
theorem add43_bad24 (X : List Value) (a : Option Addr) (m c : Nat) (hm : m ≠ 3) (w : World) :
    Calls Tryz.prog 29 #[.agg X.toArray, .int .i64 24, .slice a m c] w fun e w' => e = .returned (.agg stepZ.toArray) ∧ Kp w w' := by
  have hmi : ¬ (m : Int) = 3 := by omega
  have j1 : ((m : Int) == 3) = false := beq_eq_false_iff_ne.2 hmi
  have j2 : (m == 3) = false := beq_eq_false_iff_ne.2 hm
  have j3 : ((m : Int) != 3) = true := by unfold bne; rw [j1]; rfl
  go_enter Tryz.func29, Tryz.ntmps29
  go_wp2_with (first
    | (refine boxRowW (vs := X) rfl (.tmp 0) rfl rfl ?_; intro w1 hB hoth hkp hlt; have kw1 : Kp w w1 := hkp (Kp.refl w); clear hoth hkp)
    | (refine stRowW (vs := manyL) rowMany rfl (.tmp 7) (.tmp 9) rfl (Blk.newL (cs := manyZ) (by simp) rfl) rfl rfl manyL_one rfl rfl ?_; intro wM hbM hothM hkpM hszM; have hRM := hothM (b' := w1.heap.size) (cs := stepZ) (t' := 54) (by omega) (Blk.alloc (Blk.newL rfl rfl) _); have k1M : Kp w1 wM := hkpM (Nat.le_succ _) (show Kp w1 _ from (by (repeat (first | with_reducible assumption | with_reducible exact Kp.refl _ | with_reducible refine Kp.drew ?_ | with_reducible refine Kp.drewN ?_ _ | with_reducible refine Kp.alloc ?_ _ | ((with_reducible refine Kp.setCell ?_ ?_ _); rotate_left; (focus (first | omega | (simp; done) | (simp; omega)))) | with_reducible refine Kp.trans ?_ (by assumption))))); have mat := hbM.cell 24 rfl; have kwM : Kp w wM := kw1.trans k1M; clear hothM hkpM hszM)
    | (refine stRowW (vs := stepZ) rowStep rfl (.tmp 6) (.tmp 30) rfl hRM rfl rfl stepZ_one rfl rfl ?_; intro w5 hb5 hoth5 hkp5 hsz5))
  refine bodyPost_ret (ret_cellRow rowStep Tryz.results29 stepZ_len rfl hb5) rfl ?_
  exact ⟨rfl, hkp5 (Nat.le_of_lt hlt) kwM⟩
set_option maxRecDepth 100000 in
set_option maxHeartbeats 8000000 in
theorem add43_bad25 (X : List Value) (a : Option Addr) (m c : Nat) (hm : m ≠ 0) (w : World) :
    Calls Tryz.prog 29 #[.agg X.toArray, .int .i64 25, .slice a m c] w fun e w' => e = .returned (.agg stepZ.toArray) ∧ Kp w w' := by
  have hmi : ¬ (m : Int) = 0 := by omega
  have j1 : ((m : Int) == 0) = false := beq_eq_false_iff_ne.2 hmi
  have j2 : (m == 0) = false := beq_eq_false_iff_ne.2 hm
  have j3 : ((m : Int) != 0) = true := by unfold bne; rw [j1]; rfl
  go_enter Tryz.func29, Tryz.ntmps29
  go_wp2_with (first
    | (refine boxRowW (vs := X) rfl (.tmp 0) rfl rfl ?_; intro w1 hB hoth hkp hlt; have kw1 : Kp w w1 := hkp (Kp.refl w); clear hoth hkp)
    | (refine stRowW (vs := manyL) rowMany rfl (.tmp 7) (.tmp 9) rfl (Blk.newL (cs := manyZ) (by simp) rfl) rfl rfl manyL_one rfl rfl ?_; intro wM hbM hothM hkpM hszM; have hRM := hothM (b' := w1.heap.size) (cs := stepZ) (t' := 54) (by omega) (Blk.alloc (Blk.newL rfl rfl) _); have k1M : Kp w1 wM := hkpM (Nat.le_succ _) (show Kp w1 _ from (by (repeat (first | with_reducible assumption | with_reducible exact Kp.refl _ | with_reducible refine Kp.drew ?_ | with_reducible refine Kp.drewN ?_ _ | with_reducible refine Kp.alloc ?_ _ | ((with_reducible refine Kp.setCell ?_ ?_ _); rotate_left; (focus (first | omega | (simp; done) | (simp; omega)))) | with_reducible refine Kp.trans ?_ (by assumption))))); have mat := hbM.cell 25 rfl; have kwM : Kp w wM := kw1.trans k1M; clear hothM hkpM hszM)
    | (refine stRowW (vs := stepZ) rowStep rfl (.tmp 6) (.tmp 30) rfl hRM rfl rfl stepZ_one rfl rfl ?_; intro w5 hb5 hoth5 hkp5 hsz5))
  refine bodyPost_ret (ret_cellRow rowStep Tryz.results29 stepZ_len rfl hb5) rfl ?_
  exact ⟨rfl, hkp5 (Nat.le_of_lt hlt) kwM⟩
end Go.Proofs.YtaekeogaakogbaaGreatDoor
namespace Go.Proofs.YtaekeogaakogbaaGreatDoor

open Go.ChangeShapes Go.WideShapes Go.ChangeAt Go.RowKit Go.Shelf

/-- An item's word. -/
theorem plN_verb {wd : List UInt8} {k : Nat} (h : plN wd = some k) (hk : 19 ≤ k) : isVerb wd = true ∧ [kBox, kGlue, kPen, kMark, kNote, kFloat, kBar][k - 19]? = some wd := by
  obtain ⟨_, hw⟩ := plN_hi h (by omega)
  have e : gw8[k - 18]? = [kBox, kGlue, kPen, kMark, kNote, kFloat, kBar][k - 19]? := by
    obtain ⟨m, rfl⟩ : ∃ m, k = m + 19 := ⟨k - 19, by omega⟩
    show (wBal :: [kBox, kGlue, kPen, kMark, kNote, kFloat, kBar])[m + 19 - 18]? = _
    rw [show m + 19 - 18 = m + 1 by omega, List.getElem?_cons_succ, Nat.add_sub_cancel]
  rw [e] at hw
  refine ⟨?_, hw⟩
  have hm := List.mem_of_getElem? hw
  simp only [List.mem_cons, List.not_mem_nil, or_false] at hm
  rcases hm with rfl | rfl | rfl | rfl | rfl | rfl | rfl <;> decide
/-- A head's word is no item's. -/
theorem plN_head {wd : List UInt8} {k : Nat} (h : plN wd = some k) (hk : k < 19) : isVerb wd = false := by
  by_cases h18 : k = 18
  · subst h18
    obtain ⟨_, hw⟩ := plN_hi h (Nat.le_refl _)
    have : wd = wBal := by simpa [gw8] using hw.symm
    rw [this]; decide
  · obtain ⟨h1, h2⟩ := gi_lt (plN_lo h (by omega))
    have hm := List.mem_of_getElem? h2
    have all : ∀ x, x ∈ gw → isVerb x = false := by decide
    exact all wd hm
/-- No word: nothing stands there. -/
theorem plN_nothing {wd : List UInt8} (h : plN wd = none) (j : JobD) (next : Nat) (ns : List Int) : isVerb wd = false ∧ headJ j next wd ns = none := by
  obtain ⟨h1, h2⟩ := plN_none h
  refine ⟨?_, ?_⟩
  · have b : ∀ x, x ∈ gw8 → (wd == x) = false := fun x hx => beq_eq_false_iff_ne.2 (fun e => h2 x hx e.symm)
    unfold isVerb
    rw [b kBox (by decide), b kGlue (by decide), b kPen (by decide), b kMark (by decide), b kNote (by decide), b kFloat (by decide), b kBar (by decide)]
    rfl
  · unfold headJ
    rw [if_neg (fun e => h2 wBal (by decide) e.symm), h1]
end Go.Proofs.YtaekeogaakogbaaGreatDoor
namespace Go.Proofs.YtaekeogaakogbaaGreatDoor

open Go.ChangeShapes Go.WideShapes Go.ChangeAt Go.RowKit Go.Shelf

/-- What an item's line makes of a step, if it can stand there. -/
def AddOpt (W : World) (r : Option JobD) (w : World) (e : Ending) (w' : World) : Prop := KeepJ W w.heap.size w w' ∧ match r with
  | none => e = .returned (.agg stepZ.toArray)
  | some j' => ∃ iv nv fv, e = .returned (.agg (stepL (jobL j'.g j'.bal iv nv fv) 19 true).toArray) ∧ JRep w' W.heap.size iv nv fv j'
theorem add43_any (W : World) (j : JobD) (hgl : j.g.length = 18) (iv nv fv : Value) (last : Int) (ok : Bool) (wd : List UInt8) (k : Nat) (h19 : 19 ≤ k) (hk : [kBox, kGlue, kPen, kMark, kNote, kFloat, kBar][k - 19]? = some wd) (B : Nat) (a : Option Addr) (c : Nat) (ns : List Int) (hn1 : ns.length ≤ 10000) (w : World) (kW : Kp W w) (hJ : JRep w W.heap.size iv nv fv j) (hl : j.items.length ≤ 1000000) (hnl : j.notes.length ≤ 1000000) (hfl : j.floats.length ≤ 1000000) (hr : Row w B 2 1 enc1 (.slice a ns.length c) ns) :
    Calls Tryz.prog 29 #[.agg (stepL (jobL j.g j.bal iv nv fv) last ok).toArray, .int .i64 (k : Int), .slice a ns.length c] w (AddOpt W (addJ j wd ns) w) := by
  have bad : ∀ {e : Ending} {w' : World}, addJ j wd ns = none → (e = .returned (.agg stepZ.toArray) ∧ Kp w w') → AddOpt W (addJ j wd ns) w e w' := fun ea h => by
    rw [ea]
    exact ⟨(KeepJ.refl _ kW).kp h.2, h.1⟩
  have good : ∀ {j' : JobD} {e : Ending} {w' : World}, addJ j wd ns = some j' → AddEnd W j' w e w' → AddOpt W (addJ j wd ns) w e w' := fun ea h => by
    rw [ea]
    exact h
  obtain ⟨m, rfl⟩ : ∃ m, k = m + 19 := ⟨k - 19, by omega⟩
  rw [Nat.add_sub_cancel] at hk
  rcases m with _ | _ | _ | _ | _ | _ | _ | m
  · cases hk
    by_cases hn : ns.length = 2
    · obtain ⟨x0, x1, rfl⟩ : ∃ x0 x1, ns = [x0, x1] := by
        obtain _ | ⟨x0, _ | ⟨x1, _ | ⟨y, ns⟩⟩⟩ := ns <;> simp at hn
        exact ⟨x0, x1, rfl⟩
      exact (add43_box W j hgl iv nv fv last ok x0 x1 B a c w kW hJ hl hr).mono fun _ _ h => good (by unfold addJ; rw [if_pos rfl]) h
    · refine (add43_bad19 _ a ns.length c hn w).mono fun _ _ h => bad ?_ h
      unfold addJ
      simp only [List.cons.injEq, reduceCtorEq, and_false, if_false, if_true]
      first
        | (repeat' split) <;> first | rfl | (exact absurd rfl hn) | simp_all
  · cases hk
    by_cases hn : ns.length = 4
    · obtain ⟨x0, x1, x2, x3, rfl⟩ : ∃ x0 x1 x2 x3, ns = [x0, x1, x2, x3] := by
        obtain _ | ⟨x0, _ | ⟨x1, _ | ⟨x2, _ | ⟨x3, _ | ⟨y, ns⟩⟩⟩⟩⟩ := ns <;> simp at hn
        exact ⟨x0, x1, x2, x3, rfl⟩
      exact (add43_glue W j hgl iv nv fv last ok x0 x1 x2 x3 B a c w kW hJ hl hr).mono fun _ _ h => good (by unfold addJ; rw [if_neg (by decide), if_pos rfl]) h
    · refine (add43_bad20 _ a ns.length c hn w).mono fun _ _ h => bad ?_ h
      unfold addJ
      simp only [List.cons.injEq, reduceCtorEq, and_false, if_false, if_true]
      first
        | (repeat' split) <;> first | rfl | (exact absurd rfl hn) | simp_all
  · cases hk
    by_cases hn : ns.length = 1
    · obtain ⟨x0, rfl⟩ : ∃ x0, ns = [x0] := by
        obtain _ | ⟨x0, _ | ⟨y, ns⟩⟩ := ns <;> simp at hn
        exact ⟨x0, rfl⟩
      exact (add43_pen W j hgl iv nv fv last ok x0 B a c w kW hJ hl hr).mono fun _ _ h => good (by unfold addJ; rw [if_neg (by decide), if_neg (by decide), if_pos rfl]) h
    · refine (add43_bad21 _ a ns.length c hn w).mono fun _ _ h => bad ?_ h
      unfold addJ
      simp only [List.cons.injEq, reduceCtorEq, and_false, if_false, if_true]
      first
        | (repeat' split) <;> first | rfl | (exact absurd rfl hn) | simp_all
  · cases hk
    by_cases hn : ns.length = 1
    · obtain ⟨x0, rfl⟩ : ∃ x0, ns = [x0] := by
        obtain _ | ⟨x0, _ | ⟨y, ns⟩⟩ := ns <;> simp at hn
        exact ⟨x0, rfl⟩
      exact (add43_mark W j hgl iv nv fv last ok x0 B a c w kW hJ hl hr).mono fun _ _ h => good (by unfold addJ; rw [if_neg (by decide), if_neg (by decide), if_neg (by decide), if_pos rfl]) h
    · refine (add43_bad22 _ a ns.length c hn w).mono fun _ _ h => bad ?_ h
      unfold addJ
      simp only [List.cons.injEq, reduceCtorEq, and_false, if_false, if_true]
      first
        | (repeat' split) <;> first | rfl | (exact absurd rfl hn) | simp_all
  · cases hk
    by_cases hn : ns.length % 2 = 0
    · refine (add43_bad23 _ a ns.length c hn w).mono fun _ _ h => bad ?_ h
      unfold addJ
      rw [if_neg (by decide), if_neg (by decide), if_neg (by decide), if_neg (by decide), if_pos rfl, if_pos hn]
    · exact (add43_note W j hgl iv nv fv last ok ns (ns.length / 2) (by omega) hn1 B a c w kW hJ hl hnl hr).mono fun _ _ h => good (by unfold addJ; rw [if_neg (by decide), if_neg (by decide), if_neg (by decide), if_neg (by decide), if_pos rfl, if_neg hn]) h
  · cases hk
    by_cases hn : ns.length = 3
    · obtain ⟨x0, x1, x2, rfl⟩ : ∃ x0 x1 x2, ns = [x0, x1, x2] := by
        obtain _ | ⟨x0, _ | ⟨x1, _ | ⟨x2, _ | ⟨y, ns⟩⟩⟩⟩ := ns <;> simp at hn
        exact ⟨x0, x1, x2, rfl⟩
      exact (add43_float W j hgl iv nv fv last ok x0 x1 x2 B a c w kW hJ hl hfl hr).mono fun _ _ h => good (by unfold addJ; rw [if_neg (by decide), if_neg (by decide), if_neg (by decide), if_neg (by decide), if_neg (by decide), if_pos rfl]) h
    · refine (add43_bad24 _ a ns.length c hn w).mono fun _ _ h => bad ?_ h
      unfold addJ
      simp only [List.cons.injEq, reduceCtorEq, and_false, if_false, if_true]
      first
        | (repeat' split) <;> first | rfl | (exact absurd rfl hn) | simp_all
  · cases hk
    by_cases hn : ns.length = 0
    · obtain rfl : ns = [] := List.length_eq_zero_iff.1 hn
      exact (add43_bar W j hgl iv nv fv last ok a c w kW hJ hl).mono fun _ _ h => good (by unfold addJ; rw [if_neg (by decide), if_neg (by decide), if_neg (by decide), if_neg (by decide), if_neg (by decide), if_neg (by decide), if_pos rfl]) h
    · refine (add43_bad25 _ a ns.length c hn w).mono fun _ _ h => bad ?_ h
      unfold addJ
      simp only [List.cons.injEq, reduceCtorEq, and_false, if_false, if_true]
      first
        | (repeat' split) <;> first | rfl | (exact absurd rfl hn) | simp_all
  · simp at hk
theorem KeepJ.step {W : World} {w a b : World} (h : KeepJ W w.heap.size w a) (k : KeepJ W a.heap.size a b) : KeepJ W w.heap.size w b :=
  ⟨k.1, Nat.le_trans h.2.1 k.2.1, fun c cs t hc ht hn => by
    have hl := (Array.getElem?_eq_some_iff.1 hc).1
    have e := h.2.2 c cs t hc ht hn
    have hz := h.2.1
    exact (k.2.2 c cs t (e.trans hc) ht (by omega)).trans e⟩
theorem place_no {wd : List UInt8} (h : plN wd = none) (w : World) : Calls Tryz.prog 27 #[sv wd] w fun e w' => e = .returned (.int .i64 (-1)) ∧ Kp w w' := by
  have e : plI wd = -1 := by unfold plI; rw [h]
  have := place_any wd w
  rw [e] at this
  exact this
theorem place_yes {wd : List UInt8} {k : Nat} (h : plN wd = some k) (w : World) : Calls Tryz.prog 27 #[sv wd] w fun e w' => e = .returned (.int .i64 (k : Int)) ∧ Kp w w' := by
  have e : plI wd = (k : Int) := by unfold plI; rw [h]
  have := place_any wd w
  rw [e] at this
  exact this
end Go.Proofs.YtaekeogaakogbaaGreatDoor
namespace Go.Proofs.YtaekeogaakogbaaGreatDoor

open Go.ChangeShapes Go.WideShapes Go.ChangeAt Go.RowKit Go.Shelf

/-- What a line makes of a step. -/
def OneEnd (W : World) (r : Option (JobD × Nat)) (w : World) (e : Ending) (w' : World) : Prop := KeepJ W w.heap.size w w' ∧ match r with
  | none => e = .returned (.agg stepZ.toArray)
  | some p => ∃ iv nv fv, e = .returned (.agg (stepL (jobL p.1.g p.1.bal iv nv fv) ((p.2 : Int) - 1) true).toArray) ∧ JRep w' W.heap.size iv nv fv p.1
def partsZ : List Value := [.string ⟨#[]⟩, .slice none 0 0, .bool false]
theorem partsL_one (wd : List UInt8) (a : Option Addr) (m c : Nat) (ok : Bool) : ∀ v ∈ [sv wd, Value.slice a m c, Value.bool ok], v.oneCell' = true := fun v hv => by
  simp only [List.mem_cons, List.not_mem_nil, or_false] at hv
  rcases hv with rfl | rfl | rfl <;> rfl
theorem headD_same {j j' : JobD} {last : Int} {k : Nat} {ns : List Int} (h : headD j last k ns = some j') : j'.g.length = j.g.length ∧ j'.items = j.items ∧ j'.notes = j.notes ∧ j'.floats = j.floats := by
  unfold headD at h
  split at h
  · cases h
  · split at h
    · split at h
      · cases h; exact ⟨rfl, rfl, rfl, rfl⟩
      · cases h
    · split at h
      · split at h
        · cases h
        · cases h; exact ⟨List.length_set, rfl, rfl, rfl⟩
      · cases h
theorem JRep.ofSame {w : World} {base : Nat} {iv nv fv : Value} {j j' : JobD} (h : JRep w base iv nv fv j) (h1 : j'.items = j.items) (h2 : j'.notes = j.notes) (h3 : j'.floats = j.floats) : JRep w base iv nv fv j' :=
  ⟨by rw [h1]; exact h.items, by rw [h2]; exact h.notes, by rw [h3]; exact h.floats⟩
theorem addJ_g {j j' : JobD} {wd : List UInt8} {ns : List Int} (h : addJ j wd ns = some j') : j'.g = j.g := by
  unfold addJ at h
  repeat' split at h
  all_goals (first | (cases h; done) | (cases h; rfl))
/-- The cells that a line's call leaves, told in one way. -/
def StepIs (W : World) (r : Option (JobD × Nat)) (M : List Value) (w' : World) : Prop := M.length = 24 ∧ (∀ v ∈ M, v.oneCell' = true) ∧ match r with
  | none => M = stepZ
  | some p => ∃ iv nv fv, M = stepL (jobL p.1.g p.1.bal iv nv fv) ((p.2 : Int) - 1) true ∧ JRep w' W.heap.size iv nv fv p.1
theorem stepIs_none (W w' : World) : StepIs W none stepZ w' := ⟨stepZ_len, stepZ_one, rfl⟩
theorem stepIs_some {W w' : World} {j : JobD} {next : Nat} {iv nv fv : Value} (hg : j.g.length = 18) (hJ : JRep w' W.heap.size iv nv fv j) : StepIs W (some (j, next)) (stepL (jobL j.g j.bal iv nv fv) ((next : Int) - 1) true) w' :=
  ⟨stepL_len (jobL_len hg) _ _, stepL_one (jobL_one (row_one hJ.items) (by obtain ⟨F, nts, h, _⟩ := hJ.notes; exact row_one h) (row_one hJ.floats)) _ _, iv, nv, fv, rfl, hJ⟩
set_option maxRecDepth 100000 in
set_option maxHeartbeats 8000000 in
theorem one43_any (W : World) (j : JobD) (hgl : j.g.length = 18) (iv nv fv : Value) (next : Nat) (ok : Bool) (s : List UInt8) (hs : s.length ≤ 10000) (w : World) (kW : Kp W w) (hJ : JRep w W.heap.size iv nv fv j) (hl : j.items.length ≤ 1000000) (hnl : j.notes.length ≤ 1000000) (hfl : j.floats.length ≤ 1000000) :
    Calls Tryz.prog 13 #[.agg (stepL (jobL j.g j.bal iv nv fv) ((next : Int) - 1) ok).toArray, sv s] w (OneEnd W (takeJ (j, next) s) w) := by
  have hi1 := row_one hJ.items
  have hn1 : nv.oneCell' = true := by obtain ⟨F, nts, h, _⟩ := hJ.notes; exact row_one h
  have hf1 := row_one hJ.floats
  obtain ⟨X, hX⟩ : ∃ X, stepL (jobL j.g j.bal iv nv fv) ((next : Int) - 1) ok = X := ⟨_, rfl⟩
  have hXl : X.length = 24 := by rw [← hX]; exact stepL_len (jobL_len hgl) _ _
  have PA := Lib.hid (fun w' => parts43_any s hs w')
  have HDA : Hid (∀ (k : Nat) (hk : k ≤ 18) (B : Nat) (a : Option Addr) (c : Nat) (ns : List Int) (w : World) (hr : Row w B 2 1 enc1 (.slice a ns.length c) ns), Calls Tryz.prog 28 #[.agg X.toArray, .int .i64 (k : Int), .slice a ns.length c] w (HeadEnd j iv nv fv ((next : Int) - 1) k ns w)) := Lib.hid (by
    rw [← hX]
    exact fun k hk B a c ns w hr => head43_any j hgl iv nv fv hi1 hn1 hf1 ((next : Int) - 1) ok k hk B a c ns w hr)
  have ADA : Hid (∀ (wd : List UInt8) (k : Nat) (h19 : 19 ≤ k) (hk : [kBox, kGlue, kPen, kMark, kNote, kFloat, kBar][k - 19]? = some wd) (B : Nat) (a : Option Addr) (c : Nat) (ns : List Int) (hn1 : ns.length ≤ 10000) (w' : World) (kw : Kp w w') (hr : Row w' B 2 1 enc1 (.slice a ns.length c) ns), Calls Tryz.prog 29 #[.agg X.toArray, .int .i64 (k : Int), .slice a ns.length c] w' (AddOpt W (addJ j wd ns) w')) := Lib.hid (by
    rw [← hX]
    exact fun wd k h19 hk B a c ns hn1 w' kw hr => add43_any W j hgl iv nv fv ((next : Int) - 1) ok wd k h19 hk B a c ns hn1 w' (kW.trans kw) (hJ.move (TypedJ.kp kw)) hl hnl hfl hr)
  have HJ := Lib.hid hJ
  have HGL := Lib.hid hgl
  have HI1 := Lib.hid hi1
  have HN1 := Lib.hid hn1
  have HF1 := Lib.hid hf1
  rw [hX]
  have HX := Lib.hid hX
  clear hX hJ hi1 hn1 hf1
  go_enter Tryz.func13, Tryz.ntmps13
  go_wp2_with (first
    | (refine boxRowW (vs := X) rfl (.tmp 0) rfl rfl ?_; intro w1 hB hoth hkp hlt; have kw1 : Kp w w1 := hkp (Kp.refl w); clear hoth hkp))
  refine (PA.out _).mono ?_
  rintro e w2 ⟨kk, hend⟩
  have kw2 : Kp w w2 := kw1.trans ((show Kp w1 _ from (by (repeat (first | with_reducible assumption | with_reducible exact Kp.refl _ | with_reducible refine Kp.drew ?_ | with_reducible refine Kp.drewN ?_ _ | with_reducible refine Kp.alloc ?_ _ | ((with_reducible refine Kp.setCell ?_ ?_ _); rotate_left; (focus (first | omega | (simp; done) | (simp; omega)))) | with_reducible refine Kp.trans ?_ (by assumption))))).trans kk)
  have hX2 := (hB.alloc _).kp kk
  have hR2 : Blk w2 w1.heap.size stepZ 54 := Blk.kp (Blk.newL rfl rfl) kk
  have hXl2 := hX2.lt
  have hRl2 := hR2.lt
  have hXR : w.heap.size ≠ w1.heap.size := by omega
  have HX2 := Lib.hid hX2
  have HR2 := Lib.hid hR2
  clear hB hX2 hR2 kk
  rcases hend with ⟨wd, ns, a, c, hp, rfl, hr, hn⟩ | ⟨hp, rfl⟩
  · have HR := Lib.hid (hr.low (Nat.zero_le _))
    obtain ⟨N, hN⟩ : ∃ N, ns.length = N := ⟨_, rfl⟩
    rw [hN] at HR hn
    rw [hN]
    have HN := Lib.hid hN
    clear hr hN
    rcases hpl : plN wd with _ | k
    · have PL := Lib.hid (fun w' => place_no hpl w')
      have HT : Hid (takeJ (j, next) s = none) := Lib.hid (by
        obtain ⟨h1, h2⟩ := plN_nothing hpl j next ns
        unfold takeJ; rw [hp]; simp only [h1, h2, Bool.false_eq_true, if_false])
      clear hp hpl
      go_wp2_with (first
        | (refine stRowW (vs := [sv wd, .slice a N c, .bool true]) rowParts rfl (.tmp 5) (.tmp 8) rfl (Blk.newL (cs := partsZ) rfl rfl) rfl rfl (partsL_one _ _ _ _ _) rfl rfl ?_; intro w3 hb3 hoth3 hkp3 hsz3; have k23 : Kp w2 w3 := hkp3 (Nat.le_refl _) (show Kp w2 _ from (by (repeat (first | with_reducible assumption | with_reducible exact Kp.refl _ | with_reducible refine Kp.drew ?_ | with_reducible refine Kp.drewN ?_ _ | with_reducible refine Kp.alloc ?_ _ | ((with_reducible refine Kp.setCell ?_ ?_ _); rotate_left; (focus (first | omega | (simp; done) | (simp; omega)))) | with_reducible refine Kp.trans ?_ (by assumption))))); have c0 := hb3.cell 0 rfl; have c2 := hb3.cell 2 rfl; have hbl3 := hb3.lt; clear hoth3 hkp3 hsz3)
        | (go_at_call 27; refine (PL.out _).mono ?_; rintro e w4 ⟨rfl, k4⟩; have k34 : Kp w3 w4 := (show Kp w3 _ from (by (repeat (first | with_reducible assumption | with_reducible exact Kp.refl _ | with_reducible refine Kp.drew ?_ | with_reducible refine Kp.drewN ?_ _ | with_reducible refine Kp.alloc ?_ _ | ((with_reducible refine Kp.setCell ?_ ?_ _); rotate_left; (focus (first | omega | (simp; done) | (simp; omega)))) | with_reducible refine Kp.trans ?_ (by assumption))))).trans k4; have d2 := (k34.cell (p := ⟨w2.heap.size, 2, none⟩) hbl3).trans c2)
        | (refine stRowW (vs := stepZ) rowStep rfl (.tmp 4) (.tmp 19) rfl ((HR2.out.kp k23).kp (k34.trans (show Kp w4 _ from (by (repeat (first | with_reducible assumption | with_reducible exact Kp.refl _ | with_reducible refine Kp.drew ?_ | with_reducible refine Kp.drewN ?_ _ | with_reducible refine Kp.alloc ?_ _ | ((with_reducible refine Kp.setCell ?_ ?_ _); rotate_left; (focus (first | omega | (simp; done) | (simp; omega)))) | with_reducible refine Kp.trans ?_ (by assumption))))))) rfl rfl stepZ_one rfl rfl ?_; intro w5 hb5 hoth5 hkp5 hsz5))
      refine bodyPost_ret (ret_cellRow rowStep Tryz.results13 stepZ_len rfl hb5) rfl ?_
      rw [HT.out]
      exact ⟨(KeepJ.refl _ kW).kp (hkp5 (by omega) (kw2.trans (k23.trans (k34.trans (show Kp w4 _ from (by (repeat (first | with_reducible assumption | with_reducible exact Kp.refl _ | with_reducible refine Kp.drew ?_ | with_reducible refine Kp.drewN ?_ _ | with_reducible refine Kp.alloc ?_ _ | ((with_reducible refine Kp.setCell ?_ ?_ _); rotate_left; (focus (first | omega | (simp; done) | (simp; omega)))) | with_reducible refine Kp.trans ?_ (by assumption))))))))), rfl⟩
    · have hk26 := plN_lt hpl
      have PL := Lib.hid (fun w' => place_yes hpl w')
      have jk : decide ((k : Int) < 0) = false := decide_eq_false (by omega)
      by_cases hk : k < 19
      · have HT : Hid (takeJ (j, next) s = (headD j ((next : Int) - 1) k ns).map fun j' => (j', k + 1)) := Lib.hid (by
          unfold takeJ; rw [hp]; simp only [plN_head hpl hk, Bool.false_eq_true, if_false]
          exact headD_J hpl hk)
        have ji : decide ((k : Int) < 19) = true := decide_eq_true (by omega)
        have ji' : decide (k < 19) = true := decide_eq_true hk
        have HD : Hid (∀ w', Kp w2 w' → Calls Tryz.prog 28 #[.agg X.toArray, .int .i64 (k : Int), .slice a N c] w' (HeadEnd j iv nv fv ((next : Int) - 1) k ns w')) := Lib.hid fun w' kw => by
          have := HDA.out k (by omega) 0 a c ns w' (by rw [HN.out]; exact (HR.out.kp kw))
          rw [HN.out] at this
          exact this
        clear hp hpl hk26
        go_wp2_with (first
          | (refine stRowW (vs := [sv wd, .slice a N c, .bool true]) rowParts rfl (.tmp 5) (.tmp 8) rfl (Blk.newL (cs := partsZ) rfl rfl) rfl rfl (partsL_one _ _ _ _ _) rfl rfl ?_; intro w3 hb3 hoth3 hkp3 hsz3; have k23 : Kp w2 w3 := hkp3 (Nat.le_refl _) (show Kp w2 _ from (by (repeat (first | with_reducible assumption | with_reducible exact Kp.refl _ | with_reducible refine Kp.drew ?_ | with_reducible refine Kp.drewN ?_ _ | with_reducible refine Kp.alloc ?_ _ | ((with_reducible refine Kp.setCell ?_ ?_ _); rotate_left; (focus (first | omega | (simp; done) | (simp; omega)))) | with_reducible refine Kp.trans ?_ (by assumption))))); have c0 := hb3.cell 0 rfl; have c1 := hb3.cell 1 rfl; have c2 := hb3.cell 2 rfl; have hbl3 := hb3.lt; clear hoth3 hkp3 hsz3)
          | (go_at_call 27; refine (PL.out _).mono ?_; rintro e w4 ⟨rfl, k4⟩; have k34 : Kp w3 w4 := (show Kp w3 _ from (by (repeat (first | with_reducible assumption | with_reducible exact Kp.refl _ | with_reducible refine Kp.drew ?_ | with_reducible refine Kp.drewN ?_ _ | with_reducible refine Kp.alloc ?_ _ | ((with_reducible refine Kp.setCell ?_ ?_ _); rotate_left; (focus (first | omega | (simp; done) | (simp; omega)))) | with_reducible refine Kp.trans ?_ (by assumption))))).trans k4; have d1 := (k34.cell (p := ⟨w2.heap.size, 1, none⟩) hbl3).trans c1; have d2 := (k34.cell (p := ⟨w2.heap.size, 2, none⟩) hbl3).trans c2; have hbl4 := Nat.lt_of_lt_of_le hbl3 k34.size; have hXr4 := (HX2.out.kp (k23.trans k34)).range)
          | (refine ldRowAt rowStep rfl (.tmp 2) rfl (vs := X) hXr4 hXl rfl ?_))
        refine (HD.out _ (k23.trans (show Kp w3 _ from (by (repeat (first | with_reducible assumption | with_reducible exact Kp.refl _ | with_reducible refine Kp.drew ?_ | with_reducible refine Kp.drewN ?_ _ | with_reducible refine Kp.alloc ?_ _ | ((with_reducible refine Kp.setCell ?_ ?_ _); rotate_left; (focus (first | omega | (simp; done) | (simp; omega)))) | with_reducible refine Kp.trans ?_ (by assumption))))))).mono ?_
        rintro e w5 ⟨k45, he⟩
        have hsi : ∃ M, StepIs W (takeJ (j, next) s) M w5 ∧ e = .returned (.agg M.toArray) := by
          rw [HT.out, he]
          rcases hd : headD j ((next : Int) - 1) k ns with _ | j'
          · exact ⟨_, stepIs_none W w5, rfl⟩
          · obtain ⟨g1, g2, g3, g4⟩ := headD_same hd
            have hJ5 := (HJ.out.move (TypedJ.kp (kw2.trans (k23.trans ((show Kp w3 _ from (by (repeat (first | with_reducible assumption | with_reducible exact Kp.refl _ | with_reducible refine Kp.drew ?_ | with_reducible refine Kp.drewN ?_ _ | with_reducible refine Kp.alloc ?_ _ | ((with_reducible refine Kp.setCell ?_ ?_ _); rotate_left; (focus (first | omega | (simp; done) | (simp; omega)))) | with_reducible refine Kp.trans ?_ (by assumption))))).trans k45))))).ofSame g2 g3 g4
            have hs := stepIs_some (W := W) (next := k + 1) (by rw [g1]; exact HGL.out) hJ5
            have e1 : (((k + 1 : Nat) : Int) - 1) = (k : Int) := by omega
            rw [e1] at hs
            exact ⟨_, hs, rfl⟩
        obtain ⟨M, hsM, rfl⟩ := hsi
        have HSM := Lib.hid hsM
        have HMl := Lib.hid hsM.1
        have HM1 := Lib.hid hsM.2.1
        have k35 := Kp.trans k34 (Kp.trans (show Kp w4 _ from (by (repeat (first | with_reducible assumption | with_reducible exact Kp.refl _ | with_reducible refine Kp.drew ?_ | with_reducible refine Kp.drewN ?_ _ | with_reducible refine Kp.alloc ?_ _ | ((with_reducible refine Kp.setCell ?_ ?_ _); rotate_left; (focus (first | omega | (simp; done) | (simp; omega)))) | with_reducible refine Kp.trans ?_ (by assumption))))) k45)
        have hXr5 := hXr4
        clear he hsM HD HT
        go_wp2_with (first
          | (refine stRowW (vs := M) rowStep rfl (.tmp 4) (.tmp 26) rfl ((HR2.out.kp k23).kp (k35.trans (show Kp w5 _ from (by (repeat (first | with_reducible assumption | with_reducible exact Kp.refl _ | with_reducible refine Kp.drew ?_ | with_reducible refine Kp.drewN ?_ _ | with_reducible refine Kp.alloc ?_ _ | ((with_reducible refine Kp.setCell ?_ ?_ _); rotate_left; (focus (first | omega | (simp; done) | (simp; omega)))) | with_reducible refine Kp.trans ?_ (by assumption))))))) rfl HMl.out HM1.out rfl rfl ?_; intro w6 hb6 hoth6 hkp6 hsz6))
        refine bodyPost_ret (ret_cellRow rowStep Tryz.results13 HMl.out rfl hb6) rfl ?_
        refine ⟨(KeepJ.refl _ kW).kp (hkp6 (by omega) (kw2.trans (k23.trans (k35.trans (show Kp w5 _ from (by (repeat (first | with_reducible assumption | with_reducible exact Kp.refl _ | with_reducible refine Kp.drew ?_ | with_reducible refine Kp.drewN ?_ _ | with_reducible refine Kp.alloc ?_ _ | ((with_reducible refine Kp.setCell ?_ ?_ _); rotate_left; (focus (first | omega | (simp; done) | (simp; omega)))) | with_reducible refine Kp.trans ?_ (by assumption))))))))), ?_⟩
        have hR5 := ((HR2.out.kp k23).kp (k35.trans (show Kp w5 _ from (by (repeat (first | with_reducible assumption | with_reducible exact Kp.refl _ | with_reducible refine Kp.drew ?_ | with_reducible refine Kp.drewN ?_ _ | with_reducible refine Kp.alloc ?_ _ | ((with_reducible refine Kp.setCell ?_ ?_ _); rotate_left; (focus (first | omega | (simp; done) | (simp; omega)))) | with_reducible refine Kp.trans ?_ (by assumption)))))))
        obtain ⟨_, _, hs⟩ := HSM.out
        rcases hr : takeJ (j, next) s with _ | p
        · rw [hr] at hs; simp only at hs ⊢; rw [hs]
        · rw [hr] at hs
          simp only at hs ⊢
          obtain ⟨iv', nv', fv', rfl, hJ'⟩ := hs
          exact ⟨iv', nv', fv', rfl, hJ'.move (typedJ_others hR5 notJt_step hoth6 hsz6)⟩
      · have HT : Hid (takeJ (j, next) s = (addJ j wd ns).map fun j => (j, 20)) := Lib.hid (by
          unfold takeJ; rw [hp]; simp only [(plN_verb hpl (by omega)).1, if_true])
        have ji : decide ((k : Int) < 19) = false := decide_eq_false (by omega)
        have ji' : decide (k < 19) = false := decide_eq_false hk
        have hk19 := (plN_verb hpl (by omega)).2
        have AD : Hid (∀ w', Kp w2 w' → Calls Tryz.prog 29 #[.agg X.toArray, .int .i64 (k : Int), .slice a N c] w' (AddOpt W (addJ j wd ns) w')) := Lib.hid fun w' kw => by
          have := ADA.out wd k (by omega) hk19 0 a c ns (by rw [HN.out]; exact hn) w' (kw2.trans kw) (by rw [HN.out]; exact (HR.out.kp kw))
          rw [HN.out] at this
          exact this
        clear hp hpl hk26 hk19
        go_wp2_with (first
          | (refine stRowW (vs := [sv wd, .slice a N c, .bool true]) rowParts rfl (.tmp 5) (.tmp 8) rfl (Blk.newL (cs := partsZ) rfl rfl) rfl rfl (partsL_one _ _ _ _ _) rfl rfl ?_; intro w3 hb3 hoth3 hkp3 hsz3; have k23 : Kp w2 w3 := hkp3 (Nat.le_refl _) (show Kp w2 _ from (by (repeat (first | with_reducible assumption | with_reducible exact Kp.refl _ | with_reducible refine Kp.drew ?_ | with_reducible refine Kp.drewN ?_ _ | with_reducible refine Kp.alloc ?_ _ | ((with_reducible refine Kp.setCell ?_ ?_ _); rotate_left; (focus (first | omega | (simp; done) | (simp; omega)))) | with_reducible refine Kp.trans ?_ (by assumption))))); have c0 := hb3.cell 0 rfl; have c1 := hb3.cell 1 rfl; have c2 := hb3.cell 2 rfl; have hbl3 := hb3.lt; clear hoth3 hkp3 hsz3)
          | (go_at_call 27; refine (PL.out _).mono ?_; rintro e w4 ⟨rfl, k4⟩; have k34 : Kp w3 w4 := (show Kp w3 _ from (by (repeat (first | with_reducible assumption | with_reducible exact Kp.refl _ | with_reducible refine Kp.drew ?_ | with_reducible refine Kp.drewN ?_ _ | with_reducible refine Kp.alloc ?_ _ | ((with_reducible refine Kp.setCell ?_ ?_ _); rotate_left; (focus (first | omega | (simp; done) | (simp; omega)))) | with_reducible refine Kp.trans ?_ (by assumption))))).trans k4; have d1 := (k34.cell (p := ⟨w2.heap.size, 1, none⟩) hbl3).trans c1; have d2 := (k34.cell (p := ⟨w2.heap.size, 2, none⟩) hbl3).trans c2; have hbl4 := Nat.lt_of_lt_of_le hbl3 k34.size; have hXr4 := (HX2.out.kp (k23.trans k34)).range)
          | (refine ldRowAt rowStep rfl (.tmp 2) rfl (vs := X) hXr4 hXl rfl ?_))
        refine (AD.out _ (k23.trans (show Kp w3 _ from (by (repeat (first | with_reducible assumption | with_reducible exact Kp.refl _ | with_reducible refine Kp.drew ?_ | with_reducible refine Kp.drewN ?_ _ | with_reducible refine Kp.alloc ?_ _ | ((with_reducible refine Kp.setCell ?_ ?_ _); rotate_left; (focus (first | omega | (simp; done) | (simp; omega)))) | with_reducible refine Kp.trans ?_ (by assumption))))))).mono ?_
        rintro e w5 ⟨k45, he⟩
        have hsi : ∃ M, StepIs W (takeJ (j, next) s) M w5 ∧ e = .returned (.agg M.toArray) := by
          rw [HT.out]
          rcases hd : addJ j wd ns with _ | j'
          · rw [hd] at he
            exact ⟨_, stepIs_none W w5, he⟩
          · rw [hd] at he
            obtain ⟨iv', nv', fv', he', hJ5⟩ := he
            have hs := stepIs_some (W := W) (next := 20) (by rw [addJ_g hd]; exact HGL.out) hJ5
            exact ⟨_, hs, he'⟩
        obtain ⟨M, hsM, rfl⟩ := hsi
        have HSM := Lib.hid hsM
        have HMl := Lib.hid hsM.1
        have HM1 := Lib.hid hsM.2.1
        have k24 : Kp w2 _ := k23.trans (k34.trans (show Kp w4 _ from (by (repeat (first | with_reducible assumption | with_reducible exact Kp.refl _ | with_reducible refine Kp.drew ?_ | with_reducible refine Kp.drewN ?_ _ | with_reducible refine Kp.alloc ?_ _ | ((with_reducible refine Kp.setCell ?_ ?_ _); rotate_left; (focus (first | omega | (simp; done) | (simp; omega)))) | with_reducible refine Kp.trans ?_ (by assumption))))))
        have hR5 : Blk w5 w1.heap.size stepZ 54 := k45.blk (HR2.out.kp k24) notJt_step (by have := k24.size; omega)
        have hK5 : KeepJ W w.heap.size w w5 := KeepJ.step ((KeepJ.refl _ kW).kp (kw2.trans k24)) k45
        have HK5 := Lib.hid hK5
        have HR5 := Lib.hid hR5
        clear he hsM AD HT k45 hK5 hR5
        go_wp2_with (first
          | (refine stRowW (vs := M) rowStep rfl (.tmp 4) (.tmp 31) rfl (HR5.out.kp (show Kp w5 _ from (by (repeat (first | with_reducible assumption | with_reducible exact Kp.refl _ | with_reducible refine Kp.drew ?_ | with_reducible refine Kp.drewN ?_ _ | with_reducible refine Kp.alloc ?_ _ | ((with_reducible refine Kp.setCell ?_ ?_ _); rotate_left; (focus (first | omega | (simp; done) | (simp; omega)))) | with_reducible refine Kp.trans ?_ (by assumption)))))) rfl HMl.out HM1.out rfl rfl ?_; intro w6 hb6 hoth6 hkp6 hsz6))
        refine bodyPost_ret (ret_cellRow rowStep Tryz.results13 HMl.out rfl hb6) rfl ?_
        refine ⟨KeepJ.newStore (HK5.out.kp (show Kp w5 _ from (by (repeat (first | with_reducible assumption | with_reducible exact Kp.refl _ | with_reducible refine Kp.drew ?_ | with_reducible refine Kp.drewN ?_ _ | with_reducible refine Kp.alloc ?_ _ | ((with_reducible refine Kp.setCell ?_ ?_ _); rotate_left; (focus (first | omega | (simp; done) | (simp; omega)))) | with_reducible refine Kp.trans ?_ (by assumption)))))) (b0 := w1.heap.size) (by omega) kW.size hoth6 hkp6 hsz6, ?_⟩
        have hR6 := HR5.out.kp (show Kp w5 _ from (by (repeat (first | with_reducible assumption | with_reducible exact Kp.refl _ | with_reducible refine Kp.drew ?_ | with_reducible refine Kp.drewN ?_ _ | with_reducible refine Kp.alloc ?_ _ | ((with_reducible refine Kp.setCell ?_ ?_ _); rotate_left; (focus (first | omega | (simp; done) | (simp; omega)))) | with_reducible refine Kp.trans ?_ (by assumption)))))
        obtain ⟨_, _, hs⟩ := HSM.out
        rcases hr : takeJ (j, next) s with _ | p
        · rw [hr] at hs; simp only at hs ⊢; rw [hs]
        · rw [hr] at hs
          simp only at hs ⊢
          obtain ⟨iv', nv', fv', rfl, hJ'⟩ := hs
          exact ⟨iv', nv', fv', rfl, hJ'.move (typedJ_others hR6 notJt_step hoth6 hsz6)⟩
  · have HT : Hid (takeJ (j, next) s = none) := Lib.hid (by unfold takeJ; rw [hp])
    have PL := Lib.hid (fun w' => place_any [] w')
    clear hp
    go_wp2_with (first
      | (refine stRowW (vs := [sv [], .slice none 0 0, .bool false]) rowParts rfl (.tmp 5) (.tmp 8) rfl (Blk.newL (cs := partsZ) rfl rfl) rfl rfl (partsL_one _ _ _ _ _) rfl rfl ?_; intro w3 hb3 hoth3 hkp3 hsz3; have k23 : Kp w2 w3 := hkp3 (Nat.le_refl _) (show Kp w2 _ from (by (repeat (first | with_reducible assumption | with_reducible exact Kp.refl _ | with_reducible refine Kp.drew ?_ | with_reducible refine Kp.drewN ?_ _ | with_reducible refine Kp.alloc ?_ _ | ((with_reducible refine Kp.setCell ?_ ?_ _); rotate_left; (focus (first | omega | (simp; done) | (simp; omega)))) | with_reducible refine Kp.trans ?_ (by assumption))))); have c0 := hb3.cell 0 rfl; have c2 := hb3.cell 2 rfl; have hbl3 := hb3.lt; clear hoth3 hkp3 hsz3)
      | (go_at_call 27; refine (PL.out _).mono ?_; rintro e w4 ⟨rfl, k4⟩; have k34 : Kp w3 w4 := (show Kp w3 _ from (by (repeat (first | with_reducible assumption | with_reducible exact Kp.refl _ | with_reducible refine Kp.drew ?_ | with_reducible refine Kp.drewN ?_ _ | with_reducible refine Kp.alloc ?_ _ | ((with_reducible refine Kp.setCell ?_ ?_ _); rotate_left; (focus (first | omega | (simp; done) | (simp; omega)))) | with_reducible refine Kp.trans ?_ (by assumption))))).trans k4; have d2 := (k34.cell (p := ⟨w2.heap.size, 2, none⟩) hbl3).trans c2)
      | (refine stRowW (vs := stepZ) rowStep rfl (.tmp 4) (.tmp 19) rfl ((HR2.out.kp k23).kp (k34.trans (show Kp w4 _ from (by (repeat (first | with_reducible assumption | with_reducible exact Kp.refl _ | with_reducible refine Kp.drew ?_ | with_reducible refine Kp.drewN ?_ _ | with_reducible refine Kp.alloc ?_ _ | ((with_reducible refine Kp.setCell ?_ ?_ _); rotate_left; (focus (first | omega | (simp; done) | (simp; omega)))) | with_reducible refine Kp.trans ?_ (by assumption))))))) rfl rfl stepZ_one rfl rfl ?_; intro w5 hb5 hoth5 hkp5 hsz5))
    refine bodyPost_ret (ret_cellRow rowStep Tryz.results13 stepZ_len rfl hb5) rfl ?_
    rw [HT.out]
    exact ⟨(KeepJ.refl _ kW).kp (hkp5 (by omega) (kw2.trans (k23.trans (k34.trans (show Kp w4 _ from (by (repeat (first | with_reducible assumption | with_reducible exact Kp.refl _ | with_reducible refine Kp.drew ?_ | with_reducible refine Kp.drewN ?_ _ | with_reducible refine Kp.alloc ?_ _ | ((with_reducible refine Kp.setCell ?_ ?_ _); rotate_left; (focus (first | omega | (simp; done) | (simp; omega)))) | with_reducible refine Kp.trans ?_ (by assumption))))))))), rfl⟩
end Go.Proofs.YtaekeogaakogbaaGreatDoor
namespace Go.Proofs.YtaekeogaakogbaaGreatDoor

open Go.ChangeShapes Go.WideShapes Go.ChangeAt Go.RowKit Go.Shelf

theorem cut_here {s : List UInt8} {n fr i : Nat} (h : restK s n = s.drop fr) (hf : fr ≤ i) (h10 : (10 : UInt8) ∉ (s.take i).drop fr) (hc : s[i]? = some 10) : Lib.cut (restK s n) [10] = ((s.take i).drop fr, s.drop (i + 1), true) := by
  have hi := (List.getElem?_eq_some_iff.1 hc).1
  have e : s.drop fr = (s.take i).drop fr ++ 10 :: s.drop (i + 1) := by
    conv => lhs; rw [← List.take_append_drop i s]
    rw [List.drop_append_of_le_length (by rw [List.length_take]; omega), List.drop_eq_getElem_cons hi, (List.getElem?_eq_some_iff.1 hc).2]
  rw [h, e, cut10_at _ _ h10]
theorem rowGot : RowT 34 23 := ⟨⟨_, Tryz.underlying34, rfl⟩, by kernel_rfl⟩
theorem notJt_got : ¬ Jt 34 := by unfold Jt; decide
/-- The cells of what is got. -/
def gotL (J : List Value) (n : Int) : List Value := J ++ [.int .i64 n]
theorem gotL_len {J : List Value} (h : J.length = 22) (n : Int) : (gotL J n).length = 23 := by unfold gotL; rw [List.length_append, h]; rfl
theorem gotL_one {J : List Value} (h : ∀ v ∈ J, v.oneCell' = true) (n : Int) : ∀ v ∈ gotL J n, v.oneCell' = true := fun v hv => by
  unfold gotL at hv
  rcases List.mem_append.1 hv with hv | hv
  · exact h v hv
  · rw [List.mem_singleton] at hv; rw [hv]; rfl
theorem built_got {J : List Value} (hJ : J.length = 22) : Tryz.prog.built 34 [(0, .agg J.toArray)] = some (gotL J 0).toArray := by
  have h : ∀ parts, Tryz.prog.built 34 parts = Instr.fill (fun i => #[(0, 22), (22, 1)][i]?) (gotL jobZ 0).toArray parts := fun parts => by kernel_rfl
  rw [h]
  have e1 := fill_part (place := fun i => #[(0, 22), (22, 1)][i]?) [] jobZ [.int .i64 0] J (i := 0) (v := .agg J.toArray) (rest := []) rfl (by rw [hJ]; rfl) (by rw [hJ]; rfl)
  rw [List.nil_append, List.nil_append] at e1
  exact e1.trans rfl
theorem bdRow1 {ops : Array Oper} {rest : List Oper} {op : Oper} {a : Act} {w : World} {Q : Exit → Act → World → Prop} (hgd : op.guard = none) (t : TypeId) (i0 : Nat) (x0 : Operand) (ho : op.op = .build t #[(i0, x0)])
    {cells : List Value} {v0 : Value} (e0 : a.eval x0 = v0) (hb : Tryz.prog.built t [(i0, v0)] = some cells.toArray) (h : wpList Tryz.prog ops Q rest (a.put op.dst (.agg cells.toArray)) w) : wpList Tryz.prog ops Q (op :: rest) a w :=
  bdRow hgd t _ ho (by rw [← e0] at hb; simpa using hb) h
theorem stepL_23 {J : List Value} (h : J.length = 22) (last : Int) (ok : Bool) : (stepL J last ok)[23]? = some (.bool ok) := by
  unfold stepL; rw [List.getElem?_append_right (by omega), h]; rfl
theorem OneEnd.is {W : World} {r : Option (JobD × Nat)} {w w' : World} {e : Ending} (h : OneEnd W r w e w') (hr : ∀ p, r = some p → p.1.g.length = 18) : KeepJ W w.heap.size w w' ∧ ∃ M, StepIs W r M w' ∧ e = .returned (.agg M.toArray) := by
  obtain ⟨h1, h2⟩ := h
  refine ⟨h1, ?_⟩
  rcases r with _ | p
  · exact ⟨_, stepIs_none W w', h2⟩
  · obtain ⟨iv, nv, fv, he, hJ⟩ := h2
    exact ⟨_, stepIs_some (j := p.1) (next := p.2) (hr p rfl) hJ, he⟩
theorem take0_all {cs vs : List Value} {n : Nat} (h1 : cs.length = n) (h2 : vs.length = n) : cs.take 0 ++ vs ++ cs.drop (0 + vs.length) = vs := by
  rw [List.take_zero, List.nil_append, List.drop_of_length_le (by omega), List.append_nil]
/-- What the document reads of a text. -/
def RefEnd (s : List UInt8) (W : World) (e : Ending) (w' : World) : Prop := Kp W w' ∧ ∃ N, (∀ j, j < N → Good s j) ∧ ¬ Good s N ∧
  ((restK s N = [] ∧ ∃ j next iv nv fv, stK s N = some (j, next) ∧ e = .returned (.agg (gotL (jobL j.g j.bal iv nv fv) 0).toArray) ∧ JRep w' W.heap.size iv nv fv j) ∨
   (restK s N ≠ [] ∧ e = .returned (.agg (gotL jobZ ((N : Int) + 1)).toArray)))
set_option maxRecDepth 100000 in
set_option maxHeartbeats 8000000 in
theorem refRead43_any (s : List UInt8) (hs : s.length ≤ 10000) (w : World) : Calls Tryz.prog 7 #[sv s] w (RefEnd s w) := by
  go_enter Tryz.func7, Tryz.ntmps7
  go_wp2_with (first
    | (refine stRowW (vs := stepL jobZ (-1) false) rowStep rfl (.tmp 3) (.tmp 7) rfl (Blk.newL (cs := stepZ) (by simp) rfl) stepZ_len (stepL_len jobZ_len _ _) (stepL_one jobZ_one _ _) rfl rfl ?_; intro w1 hb1 hoth1 hkp1 hsz1; have hg1 : Blk w1 w.heap.size (gotL jobZ 0) 34 := hoth1 (by omega) (Blk.alloc (Blk.newL rfl rfl) _); have kw1 : Kp w w1 := hkp1 (Nat.le_succ _) (show Kp w _ from (by (repeat (first | with_reducible assumption | with_reducible exact Kp.refl _ | with_reducible refine Kp.drew ?_ | with_reducible refine Kp.drewN ?_ _ | with_reducible refine Kp.alloc ?_ _ | ((with_reducible refine Kp.setCell ?_ ?_ _); rotate_left; (focus (first | omega | (simp; done) | (simp; omega)))) | with_reducible refine Kp.trans ?_ (by assumption))))); clear hoth1 hkp1 hsz1))
  go_loopw [4, 5, 6] (fun v4 v5 v6 wr => ∃ (i fr n : Nat) (j : JobD) (next : Nat) (iv nv fv : Value) (ok : Bool), i ≤ s.length ∧ v6 = .int .i64 (i : Int) ∧ v4 = .int .i64 (fr : Int) ∧ v5 = .int .i64 (n : Int) ∧ fr ≤ i ∧ n ≤ i ∧ (10 : UInt8) ∉ (s.take i).drop fr ∧ restK s n = s.drop fr ∧ (∀ j, j < n → Good s j) ∧ stK s n = some (j, next) ∧
    Blk wr w.heap.size (gotL jobZ 0) 34 ∧ Blk wr (w.heap.size + 1) (stepL (jobL j.g j.bal iv nv fv) ((next : Int) - 1) ok) 54 ∧ JRep wr w.heap.size iv nv fv j ∧ Kp w wr) (fun _ _ v6 _ => s.length - (intOf v6).toNat)
  case atStart => exact ⟨0, 0, 0, job0, 0, .slice none 0 0, .slice none 0 0, .slice none 0 0, false, Nat.zero_le _, rfl, rfl, rfl, Nat.le_refl _, Nat.le_refl _, by simp, rfl, fun j hj => by omega, rfl, hg1, hb1, jrep0 _ _, kw1⟩
  case round =>
    obtain ⟨i, fr, n, j, next, iv, nv, fv, ok, hi, rfl, rfl, rfl, hfr, hni, h10, hrest, hgood, hst, xr, xx, xJ, xk⟩ := hrel
    obtain ⟨hjok, hjf, hnx⟩ := stK_ok (by omega) hst
    by_cases hlt : i < s.length
    · obtain ⟨b, hc⟩ : ∃ b, s[i]? = some b := ⟨s[i], List.getElem?_eq_getElem hlt⟩
      have ht : s.take (i + 1) = s.take i ++ [b] := by rw [List.take_add_one, hc]; rfl
      have ji : decide ((i : Int) < (s.length : Int)) = true := decide_eq_true (by omega)
      have hsz : (⟨s.toArray⟩ : ByteArray).size = s.length := size_sv s
      have hcg : (⟨s.toArray⟩ : ByteArray)[i]'(by rw [hsz]; exact hlt) = b := (List.getElem?_eq_some_iff.1 hc).2
      by_cases hb : b = 10
      · have e10 : ((b.toNat : Int) == 10) = true := by subst hb; rfl
        have hcut := cut_here hrest hfr h10 (by rw [hc, hb])
        obtain ⟨Ln, hLn⟩ : ∃ Ln, (s.take i).drop fr = Ln := ⟨_, rfl⟩
        have hex : (⟨s.toArray⟩ : ByteArray).extract fr i = ⟨Ln.toArray⟩ := by rw [extract_sv, hLn]
        have hLl : Ln.length ≤ 10000 := by rw [← hLn, List.length_drop, List.length_take]; omega
        rw [hLn] at hcut
        have hline : lineK s n = Ln := by unfold lineK; rw [hcut]
        have hrest1 : restK s (n + 1) = s.drop (i + 1) := by show (Lib.cut (restK s n) [10]).2.1 = _; rw [hcut]
        have hne : restK s n ≠ [] := by
          rw [hrest]
          intro e
          have := congrArg List.length e
          rw [List.length_drop, List.length_nil] at this
          omega
        have hst1 : stK s (n + 1) = takeJ (j, next) Ln := by
          show (stK s n).bind (fun st => takeJ st (lineK s n)) = _
          rw [hst, hline]; rfl
        obtain ⟨X, hX⟩ : ∃ X, stepL (jobL j.g j.bal iv nv fv) ((next : Int) - 1) ok = X := ⟨_, rfl⟩
        have HXl : Hid (X.length = 24) := Lib.hid (by rw [← hX]; exact stepL_len (jobL_len hjok.len) _ _)
        have CO : Hid (∀ w1, Kp wr w1 → Calls Tryz.prog 13 #[.agg X.toArray, sv Ln] w1 fun e w2 => KeepJ w w1.heap.size w1 w2 ∧ ∃ M, StepIs w (takeJ (j, next) Ln) M w2 ∧ e = .returned (.agg M.toArray)) := Lib.hid fun w1 k1 => by
          rw [← hX]
          refine (one43_any w j hjok.len iv nv fv next ok Ln hLl w1 (xk.trans k1) (xJ.move (TypedJ.kp k1)) (by have := hjf.1; omega) (by have := hjf.2.1; omega) (by have := hjf.2.2; omega)).mono fun e w2 h => h.is fun p hp => ?_
          obtain ⟨j', next'⟩ := p
          exact (takeJ_ok hp hjok hjf (by omega)).1.len
        obtain ⟨rs, hrs⟩ : ∃ rs, takeJ (j, next) Ln = rs := ⟨_, rfl⟩
        rw [hrs] at CO hst1
        have HG : Hid (Good s n ↔ rs.isSome = true) := Lib.hid (by
          unfold Good
          rw [hst1, hcut]
          exact ⟨fun h => h.2.2, fun h => ⟨hne, rfl, h⟩⟩)
        have HST1 := Lib.hid hst1
        have HX := Lib.hid hrest1
        have HE := Lib.hid hne
        have HGD := Lib.hid hgood
        have HS : Hid ((10 : UInt8) ∉ (s.take (i + 1)).drop (i + 1)) := Lib.hid (by rw [List.drop_of_length_le (by rw [List.length_take]; omega)]; simp)
        rw [hX] at xx
        clear xJ hrest1 hne hgood hst1 hcut hline hLn h10 hrest ht hc hb hst hrs hX hjok hjf hnx hLl
        have xl := xx.lt
        have xrl := xr.lt
        go_wp2_with fail
        (refine wp_region_held_drew (S := (fun _ => True)) (by kernel_rfl) ?_ (fun hHd => ?_); (focus ((try dsimp only); all_goals trivial)))
        (refine takeH (i := 1) (oi := ?o1) (v := ?v1) ?h1 (by kernel_rfl) ?q1 (Or.inl ⟨?w1, ?y1⟩) (by assumption) ?r1; (case h1 => ((simp only [g1, g2, g3]); rfl)); (case q1 => exact fun _ _ _ h => h); (case w1 => rfl); (case y1 => (intro w' hSw; (try dsimp only at hSw); go_simp; (try with_reducible rfl))); (try simp only [Act.put, s1, s2, s3]))
        (refine takeH (i := 2) (oi := ?o2) (v := ?v2) ?h2 (by kernel_rfl) ?q2 (Or.inl ⟨?w2, ?y2⟩) (by assumption) ?r2; (case h2 => ((simp only [g1, g2, g3]); rfl)); (case q2 => exact fun _ _ _ h => h); (case w2 => rfl); (case y2 => (intro w' hSw; (try dsimp only at hSw); go_simp; (try with_reducible rfl))); (try simp only [Act.put, s1, s2, s3]))
        (refine takeH (i := 3) (oi := ?o3) (v := ?v3) ?h3 (by kernel_rfl) ?q3 (Or.inl ⟨?w3, ?y3⟩) (by assumption) ?r3; (case h3 => ((simp only [g1, g2, g3]); rfl)); (case q3 => exact fun _ _ _ h => h); (case w3 => rfl); (case y3 => (intro w' hSw; (try dsimp only at hSw); go_simp; (try with_reducible rfl))); (try simp only [Act.put, s1, s2, s3]))
        (refine takeH (i := 4) (oi := ?o4) (v := ?v4) ?h4 (by kernel_rfl) ?q4 (Or.inl ⟨?w4, ?y4⟩) (by assumption) ?r4; (case h4 => ((simp only [g1, g2, g3]); rfl)); (case q4 => exact fun _ _ _ h => h); (case w4 => rfl); (case y4 => (intro w' hSw; (try dsimp only at hSw); go_simp; (try with_reducible rfl))); (try simp only [Act.put, s1, s2, s3]))
        (refine wpAnyH_ready (rs := [0]) (by kernel_rfl) (by simp) ?_; refine AllReadyH.cons (o := ?o5) ?h5 (fun K hK => ?s5) AllReadyH.nil; (case h5 => (first | ((simp only [g1, g3]); rfl) | rfl)); (refine ldRowX rowStep (.tmp 3) rfl (xx.kp (show Kp wr _ from (by (repeat (first | with_reducible assumption | with_reducible exact Kp.refl _ | with_reducible refine Kp.drew ?_ | with_reducible refine Kp.drewN ?_ _ | with_reducible refine Kp.alloc ?_ _ | ((with_reducible refine Kp.setCell ?_ ?_ _); rotate_left; (focus (first | omega | (simp; done) | (simp; omega)))) | with_reducible refine Kp.trans ?_ (by assumption)))))).range HXl.out rfl ?_); refine hK.out _ _ ?_ (fun hHd => ?_); (focus ((try dsimp only); all_goals trivial)); clear hK K; (try simp only [Act.put]))
        (refine wpAnyH_ready (rs := [5]) (by kernel_rfl) (by simp) ?_; refine AllReadyH.cons (o := ?o7) ?h7 (fun K hK => ?s7) AllReadyH.nil; (case h7 => (first | ((simp only [g1, g2, g3]); rfl) | rfl)); (go_simp; go_at_call 13; refine (CO.out _ (show Kp wr _ from (by (repeat (first | with_reducible assumption | with_reducible exact Kp.refl _ | with_reducible refine Kp.drew ?_ | with_reducible refine Kp.drewN ?_ _ | with_reducible refine Kp.alloc ?_ _ | ((with_reducible refine Kp.setCell ?_ ?_ _); rotate_left; (focus (first | omega | (simp; done) | (simp; omega)))) | with_reducible refine Kp.trans ?_ (by assumption)))))).mono ?_; rintro e w4 ⟨k4, M, hsM, rfl⟩; (try dsimp only); have kw4 : Kp w w4 := k4.1; have xr4 := k4.blk (xr.kp (show Kp wr _ from (by (repeat (first | with_reducible assumption | with_reducible exact Kp.refl _ | with_reducible refine Kp.drew ?_ | with_reducible refine Kp.drewN ?_ _ | with_reducible refine Kp.alloc ?_ _ | ((with_reducible refine Kp.setCell ?_ ?_ _); rotate_left; (focus (first | omega | (simp; done) | (simp; omega)))) | with_reducible refine Kp.trans ?_ (by assumption)))))) notJt_got (by have h9 : wr.heap.size ≤ wr.drew.heap.size := (show Kp wr wr.drew from (by (repeat (first | with_reducible assumption | with_reducible exact Kp.refl _ | with_reducible refine Kp.drew ?_ | with_reducible refine Kp.drewN ?_ _ | with_reducible refine Kp.alloc ?_ _ | ((with_reducible refine Kp.setCell ?_ ?_ _); rotate_left; (focus (first | omega | (simp; done) | (simp; omega)))) | with_reducible refine Kp.trans ?_ (by assumption))))).size; omega); have xx4 := k4.blk (xx.kp (show Kp wr _ from (by (repeat (first | with_reducible assumption | with_reducible exact Kp.refl _ | with_reducible refine Kp.drew ?_ | with_reducible refine Kp.drewN ?_ _ | with_reducible refine Kp.alloc ?_ _ | ((with_reducible refine Kp.setCell ?_ ?_ _); rotate_left; (focus (first | omega | (simp; done) | (simp; omega)))) | with_reducible refine Kp.trans ?_ (by assumption)))))) notJt_step (by have h9 : wr.heap.size ≤ wr.drew.heap.size := (show Kp wr wr.drew from (by (repeat (first | with_reducible assumption | with_reducible exact Kp.refl _ | with_reducible refine Kp.drew ?_ | with_reducible refine Kp.drewN ?_ _ | with_reducible refine Kp.alloc ?_ _ | ((with_reducible refine Kp.setCell ?_ ?_ _); rotate_left; (focus (first | omega | (simp; done) | (simp; omega)))) | with_reducible refine Kp.trans ?_ (by assumption))))).size; omega); have HSM := Lib.hid hsM; clear hsM); refine hK.out _ _ ?_ (fun hHd => ?_); (focus ((try dsimp only); all_goals trivial)); clear hK K; (try simp only [Act.put]))
        (refine wpAnyH_ready (rs := [6]) (by kernel_rfl) (by simp) ?_; refine AllReadyH.cons (o := ?o9) ?h9 (fun K hK => ?s9) AllReadyH.nil; (case h9 => (first | ((simp only [g1, g2, g3]); rfl) | rfl)); (refine stRowAtX rowStep (vs := M) (.tmp 3) (.tmp 25) rfl (xx4.kp (show Kp w4 _ from (by (repeat (first | with_reducible assumption | with_reducible exact Kp.refl _ | with_reducible refine Kp.drew ?_ | with_reducible refine Kp.drewN ?_ _ | with_reducible refine Kp.alloc ?_ _ | ((with_reducible refine Kp.setCell ?_ ?_ _); rotate_left; (focus (first | omega | (simp; done) | (simp; omega)))) | with_reducible refine Kp.trans ?_ (by assumption)))))) (by rw [HXl.out]; decide) HSM.out.1 HSM.out.2.1 rfl rfl ?_; intro w5 hb5 hoth5 hkp5 hsz5; rw [take0_all HXl.out HSM.out.1] at hb5; have xr5 := hoth5 (by omega) (xr4.kp (show Kp w4 _ from (by (repeat (first | with_reducible assumption | with_reducible exact Kp.refl _ | with_reducible refine Kp.drew ?_ | with_reducible refine Kp.drewN ?_ _ | with_reducible refine Kp.alloc ?_ _ | ((with_reducible refine Kp.setCell ?_ ?_ _); rotate_left; (focus (first | omega | (simp; done) | (simp; omega)))) | with_reducible refine Kp.trans ?_ (by assumption)))))); have kw5 : Kp w w5 := hkp5 (Nat.le_succ _) (kw4.trans (show Kp w4 _ from (by (repeat (first | with_reducible assumption | with_reducible exact Kp.refl _ | with_reducible refine Kp.drew ?_ | with_reducible refine Kp.drewN ?_ _ | with_reducible refine Kp.alloc ?_ _ | ((with_reducible refine Kp.setCell ?_ ?_ _); rotate_left; (focus (first | omega | (simp; done) | (simp; omega)))) | with_reducible refine Kp.trans ?_ (by assumption)))))); have HM5 : Hid (∀ iv nv fv j, JRep w4 w.heap.size iv nv fv j → JRep w5 w.heap.size iv nv fv j) := Lib.hid fun iv nv fv j h => (h.move (TypedJ.kp (show Kp w4 _ from (by (repeat (first | with_reducible assumption | with_reducible exact Kp.refl _ | with_reducible refine Kp.drew ?_ | with_reducible refine Kp.drewN ?_ _ | with_reducible refine Kp.alloc ?_ _ | ((with_reducible refine Kp.setCell ?_ ?_ _); rotate_left; (focus (first | omega | (simp; done) | (simp; omega)))) | with_reducible refine Kp.trans ?_ (by assumption))))))).move (typedJ_others (xx4.kp (show Kp w4 _ from (by (repeat (first | with_reducible assumption | with_reducible exact Kp.refl _ | with_reducible refine Kp.drew ?_ | with_reducible refine Kp.drewN ?_ _ | with_reducible refine Kp.alloc ?_ _ | ((with_reducible refine Kp.setCell ?_ ?_ _); rotate_left; (focus (first | omega | (simp; done) | (simp; omega)))) | with_reducible refine Kp.trans ?_ (by assumption)))))) notJt_step hoth5 hsz5); clear hoth5 hkp5 hsz5 xx4 xr4 kw4 k4); refine hK.out _ _ ?_ (fun hHd => ?_); (focus ((try dsimp only); all_goals trivial)); clear hK K; (try simp only [Act.put]))
        refine wpAnyH_done (by kernel_rfl) ?_ _
        (try clear hHd)
        have xl5 := hb5.lt
        obtain ⟨_, _, hs⟩ := HSM.out
        clear HSM CO xr xx xk
        rcases rs with _ | ⟨j', next'⟩
        · simp only at hs
          subst hs
          have y23 : w5.cell? ⟨w.heap.size + 1, 23, none⟩ = some (.bool false) := hb5.cell 23 rfl
          have HB : Hid (¬ Good s n) := Lib.hid fun h => by cases HG.out.1 h
          go_wp2_with (first
            | (refine stRowW (vs := gotL jobZ ((n : Int) + 1)) rowGot rfl (.tmp 2) (.tmp 30) rfl xr5 (gotL_len jobZ_len _) (gotL_len jobZ_len _) (gotL_one jobZ_one _) rfl rfl ?_; intro w6 hb6 hoth6 hkp6 hsz6))
          refine bodyPost_ret (ret_cellRow rowGot Tryz.results7 (gotL_len jobZ_len _) rfl hb6) rfl ?_
          exact ⟨hkp6 (Nat.le_refl _) kw5, n, HGD.out, HB.out, .inr ⟨HE.out, rfl⟩⟩
        · simp only at hs
          obtain ⟨iv', nv', fv', rfl, hJ'⟩ := hs
          have HJ' := Lib.hid (HM5.out _ _ _ _ hJ')
          have HGN : Hid (Good s n) := Lib.hid (HG.out.2 rfl)
          have HLEN : Hid (j'.g.length = 18) := Lib.hid (stK_ok (k := n + 1) (by omega) HST1.out).1.len
          have y23 : w5.cell? ⟨w.heap.size + 1, 23, none⟩ = some (.bool true) := hb5.cell 23 (stepL_23 (jobL_len HLEN.out) _ _)
          have HB5 := Lib.hid hb5
          clear hJ' HM5 HG hb5
          go_wp2_with fail
          go_roundw
          case rel => exact ⟨i + 1, i + 1, n + 1, j', next', iv', nv', fv', true, by omega, by go_num, by go_num, by go_num, Nat.le_refl _, by omega, HS.out, HX.out, fun j hj => by
            by_cases e : j = n
            · rw [e]; exact HGN.out
            · exact HGD.out j (by omega), HST1.out, xr5, HB5.out, HJ'.out, kw5⟩
          case measure => simp [intOf]; omega
      · have e10 : ((b.toNat : Int) == 10) = false := beq_eq_false_iff_ne.2 (fun e => hb (UInt8.toNat_inj.1 (by have : (10 : UInt8).toNat = 10 := rfl; omega)))
        have HS : Hid ((10 : UInt8) ∉ (s.take (i + 1)).drop fr) := Lib.hid (by
          rw [ht, List.drop_append_of_le_length (by rw [List.length_take]; omega)]
          intro hm
          rcases List.mem_append.1 hm with hm | hm
          · exact h10 hm
          · rw [List.mem_singleton] at hm; exact hb hm.symm)
        have HGD := Lib.hid hgood
        have HR := Lib.hid xJ
        have HXX := Lib.hid xx
        have HX := Lib.hid hrest
        have HD := Lib.hid hst
        clear xJ hgood hrest hst h10 ht hc hb xx hjok hjf hnx
        go_wp2_with fail
        go_roundw
        case rel => exact ⟨i + 1, fr, n, j, next, iv, nv, fv, ok, by omega, by go_num, by first | rfl | go_num, by first | rfl | go_num, by omega, by omega, HS.out, HX.out, HGD.out, HD.out, xr, HXX.out, HR.out, xk⟩
        case measure => simp [intOf]; omega
    · obtain rfl : i = s.length := by omega
      have ji : decide ((s.length : Int) < (s.length : Int)) = false := decide_eq_false (by omega)
      rw [List.take_length] at h10
      have HGD := Lib.hid hgood
      have HR := Lib.hid xJ
      have HD := Lib.hid hst
      have zl := xr.lt
      have xl := xx.lt
      by_cases hf : fr < s.length
      · have jf : decide ((fr : Int) < (s.length : Int)) = true := decide_eq_true (by omega)
        have HE : Hid (restK s n ≠ []) := Lib.hid (by
          rw [hrest]
          intro e
          have := congrArg List.length e
          rw [List.length_drop, List.length_nil] at this
          omega)
        have HB : Hid (¬ Good s n) := Lib.hid fun hg => by
          have h2 := hg.2.1
          rw [hrest, cut10_no _ h10] at h2
          cases h2
        clear hrest hgood xJ hst h10 xx hjok hjf hnx
        go_wp2_with (first
          | (refine stRowW (vs := gotL jobZ ((n : Int) + 1)) rowGot rfl (.tmp 2) (.tmp 39) rfl xr (gotL_len jobZ_len _) (gotL_len jobZ_len _) (gotL_one jobZ_one _) rfl rfl ?_; intro w6 hb6 hoth6 hkp6 hsz6))
        refine bodyPost_ret (ret_cellRow rowGot Tryz.results7 (gotL_len jobZ_len _) rfl hb6) rfl ?_
        exact ⟨hkp6 (Nat.le_refl _) xk, n, HGD.out, HB.out, .inr ⟨HE.out, rfl⟩⟩
      · have jf : decide ((fr : Int) < (s.length : Int)) = false := decide_eq_false (by omega)
        have HE : Hid (restK s n = []) := Lib.hid (by rw [hrest, List.drop_of_length_le (by omega)])
        have HB : Hid (¬ Good s n) := Lib.hid fun hg => hg.1 HE.out
        obtain ⟨J, hJ⟩ : ∃ J, jobL j.g j.bal iv nv fv = J := ⟨_, rfl⟩
        have HJl : Hid (J.length = 22) := Lib.hid (by rw [← hJ]; exact jobL_len hjok.len)
        have HJ1 : Hid (∀ v ∈ J, v.oneCell' = true) := Lib.hid (by
          rw [← hJ]
          exact jobL_one (row_one xJ.items) (by obtain ⟨F, nts, h, _⟩ := xJ.notes; exact row_one h) (row_one xJ.floats))
        have HJJ := Lib.hid hJ
        rw [hJ] at xx
        have HRG := Lib.hid (stepL_range xx)
        clear hrest hgood xJ hst h10 hjok hjf hnx hJ
        go_wp2_with (first
          | (refine ldRowAt rowJob rfl (.tmp 40) rfl (vs := J) HRG.out HJl.out rfl ?_)
          | (refine bdRow1 rfl 34 0 (.tmp 41) rfl rfl (built_got HJl.out) ?_)
          | (refine stRowW (vs := gotL J 0) rowGot rfl (.tmp 2) (.tmp 42) rfl xr (gotL_len jobZ_len _) (gotL_len HJl.out _) (gotL_one HJ1.out _) rfl rfl ?_; intro w6 hb6 hoth6 hkp6 hsz6))
        refine bodyPost_ret (ret_cellRow rowGot Tryz.results7 (gotL_len HJl.out _) rfl hb6) rfl ?_
        exact ⟨hkp6 (Nat.le_refl _) xk, n, HGD.out, HB.out, .inl ⟨HE.out, j, next, iv, nv, fv, HD.out, by rw [HJJ.out], HR.out.move (typedJ_others xr notJt_got hoth6 hsz6)⟩⟩
end Go.Proofs.YtaekeogaakogbaaGreatDoor
