/- A script's reader: a line. -/
import Derived.Test.YtaekeogaakogbaaGreatDoorJ11

import Derived.Laws.StructEq

namespace Go.Proofs.YtaekeogaakogbaaGreatDoor
set_option linter.unusedVariables false
open Go.ChangeShapes Go.WideShapes Go.ChangeAt Go.RowKit Go.Shelf

theorem zeroVerb (w : World) : (zeroValue 79).run Tryz.prog w = .ok (.agg #[.int .i64 0, .nilFunc]) w := by kernel_rfl
theorem run_yes {w : World} {r i : Nat} {es : Array MapEntry} {clock : Nat} {s : ByteArray} {v : Value} (hb : w.heap[r]? = some (.map es clock)) (hf : Instr.findNow .string (.string s) es.toList 0 = some (some (i, v))) : (Instr.lookup 81 (.map (some r)) (.string s) true).run Tryz.prog w = .ok (.tuple #[v, .bool true]) w := by
  have hc : ∀ e, (Instr.checkKey e 10000 9 (.string s)).run Tryz.prog w = .ok () w := fun e => MapKept.run_checkKey (k := .string s) Tryz.underlying9 (by simp [MapKept.IsKey]) e 9999
  simp [Instr.lookup, run_underlying Tryz.underlying81, MapKept.run_getObj_map hb, hc, MapKept.run_findKey Tryz.underlying9 hf, Result.andThen]
theorem run_no {w : World} {r : Nat} {es : Array MapEntry} {clock : Nat} {s : ByteArray} (hb : w.heap[r]? = some (.map es clock)) (hf : Instr.findNow .string (.string s) es.toList 0 = some none) : (Instr.lookup 81 (.map (some r)) (.string s) true).run Tryz.prog w = .ok (.tuple #[.agg #[.int .i64 0, .nilFunc], .bool false]) w := by
  have hc : ∀ e, (Instr.checkKey e 10000 9 (.string s)).run Tryz.prog w = .ok () w := fun e => MapKept.run_checkKey (k := .string s) Tryz.underlying9 (by simp [MapKept.IsKey]) e 9999
  simp [Instr.lookup, run_underlying Tryz.underlying81, MapKept.run_getObj_map hb, hc, MapKept.run_findKey Tryz.underlying9 hf, zeroVerb w, Result.andThen]
theorem sv_ne {a b : List UInt8} (h : (a == b) = false) : Instr.sameNow .string (sv a) (sv b) = some false := by
  show some ((⟨a.toArray⟩ : ByteArray) == ⟨b.toArray⟩) = some false
  rw [beq_toListBytes, ByteArray.toList_eq, ByteArray.toList_eq]
  show some (a == b) = some false
  rw [h]
theorem find_no {wd : List UInt8} (h : isVerb wd = false) : Instr.findNow .string (sv wd) verbE.toList 0 = some none := by
  unfold isVerb at h
  simp only [Bool.or_eq_false_iff] at h
  obtain ⟨h0, h1, h2, h3, h4, h5, h6⟩ := h
  show Instr.findNow .string (sv wd) [ent kBox 2 _ 0, ent kGlue 4 _ 1, ent kPen 1 _ 2, ent kMark 1 _ 3, ent kNote (-1) _ 4, ent kFloat 3 _ 5, ent kBar 0 _ 6] 0 = some none
  simp only [Instr.findNow, ent, sv_ne h0, sv_ne h1, sv_ne h2, sv_ne h3, sv_ne h4, sv_ne h5, sv_ne h6]
set_option maxRecDepth 100000 in
set_option maxHeartbeats 8000000 in
theorem takeS_none (W : World) (R : Nat) (j : JobD) (next : Nat) (s : List UInt8) (hp : parseP s = none) (hs : s.length ≤ 10000) (w1 : World) (he : Env w1) (k1 : Kp W w1) (hWR : W.heap.size ≤ R) (h : Rdr w1 R W.heap.size j next) (hj : j.ok) (hf : j.few 100000) (hnx : next ≤ 20) :
    Calls Tryz.prog 12 #[.pointer (some ⟨R, 0, none⟩), sv s] w1 (HeadOf W R none w1) := by
  have CPA := Lib.hid (parseS_any s hs w1 he)
  have hRl := h.lt
  clear he h
  go_enter Tryz.func12, Tryz.ntmps12
  go_wp2_with fail
  refine CPA.out.mono ?_
  rintro e w2 ⟨k2, ⟨wd', ns', a, c, hp2, rfl, hrow, hnl⟩ | ⟨hp2, rfl⟩⟩
  · rw [hp] at hp2; cases hp2
  go_wp2_with fail
  (try go_ret)
  exact ⟨(KeepJ.refl R k1).kp k2, Nat.lt_of_lt_of_le hRl k2.size, rfl⟩
set_option maxRecDepth 100000 in
set_option maxHeartbeats 8000000 in
theorem takeS_head (W : World) (R : Nat) (j : JobD) (next : Nat) (s : List UInt8) (wd : List UInt8) (ns : List Int) (hp : parseP s = some (wd, ns)) (hv : isVerb wd = false) (hs : s.length ≤ 10000) (w1 : World) (he : Env w1) (k1 : Kp W w1) (hWR : W.heap.size ≤ R) (h : Rdr w1 R W.heap.size j next) (hj : j.ok) (hf : j.few 100000) (hnx : next ≤ 20) :
    Calls Tryz.prog 12 #[.pointer (some ⟨R, 0, none⟩), sv s] w1 (HeadOf W R (headJ j next wd ns) w1) := by
  obtain ⟨rs, hrs⟩ : ∃ rs, headJ j next wd ns = rs := ⟨_, rfl⟩
  rw [hrs]
  have HRS := Lib.hid hrs
  clear hrs
  have CPA := Lib.hid (parseS_any s hs w1 he)
  have HR := Lib.hid h
  have hRl := h.lt
  clear he h
  go_enter Tryz.func12, Tryz.ntmps12
  go_wp2_with fail
  refine CPA.out.mono ?_
  rintro e w2 ⟨k2, ⟨wd', ns', a, c, hp2, rfl, hrow, hnl⟩ | ⟨hp2, rfl⟩⟩
  rotate_left
  · rw [hp] at hp2; cases hp2
  rw [hp] at hp2
  simp only [Option.some.injEq, Prod.mk.injEq] at hp2
  obtain ⟨rfl, rfl⟩ := hp2
  have HROW := Lib.hid hrow
  clear CPA hrow
  go_wp2_with fail
  refine (verbs_any _).mono ?_
  rintro e w3 ⟨r, rfl, hm, hrw, k3⟩
  have kw3 : Kp w1 w3 := k2.trans (((by (repeat (first | with_reducible assumption | with_reducible exact Kp.refl _ | with_reducible refine Kp.drew ?_ | with_reducible refine Kp.drewN ?_ _ | with_reducible refine Kp.alloc ?_ _ | ((with_reducible refine Kp.setCell ?_ ?_ _); rotate_left; (focus (first | omega | (simp; done) | (simp; omega)))) | with_reducible refine Kp.trans ?_ (by assumption)))) : Kp w2 _).trans k3)
  have kw23 : Kp w2 w3 := ((by (repeat (first | with_reducible assumption | with_reducible exact Kp.refl _ | with_reducible refine Kp.drew ?_ | with_reducible refine Kp.drewN ?_ _ | with_reducible refine Kp.alloc ?_ _ | ((with_reducible refine Kp.setCell ?_ ?_ _); rotate_left; (focus (first | omega | (simp; done) | (simp; omega)))) | with_reducible refine Kp.trans ?_ (by assumption)))) : Kp w2 _).trans k3
  have LK := run_no hm (find_no hv)
  have CH := Lib.hid (fun (w' : World) (k : Kp w1 w') (hr : Row w' w1.heap.size 2 1 enc1 (.slice a ns.length c) ns) => (HRS.out ▸ head_any W R j next wd w1.heap.size a c ns w' (k1.trans k) hWR (HR.out.kp k) hj.len hnx hnl hr : Calls Tryz.prog 25 #[.pointer (some ⟨R, 0, none⟩), sv wd, .slice a ns.length c] w' (HeadOf W R rs w')))
  clear hp
  go_wp2_with fail
  have hrow4 : Row (w3.alloc (.cells #[.int .i64 0, .nilFunc] 79)) w1.heap.size 2 1 enc1 (.slice a ns.length c) ns := HROW.out.kp (kw23.alloc _)
  refine (CH.out _ (kw3.alloc _) hrow4).mono ?_
  rintro e w5 ⟨hK, hl, hh⟩
  have hKK := ((KeepJ.refl R k1).kp (kw3.alloc (.cells #[.int .i64 0, .nilFunc] 79))).trans hK
  clear CH
  rcases rs with _ | ⟨j', n'⟩
  · simp only at hh
    subst hh
    go_wp2_with fail
    (try go_ret)
    exact ⟨hKK, hl, rfl⟩
  · simp only at hh
    obtain ⟨rfl, hR'⟩ := hh
    have HR' := Lib.hid hR'
    clear hR'
    go_wp2_with fail
    (try go_ret)
    exact ⟨hKK, hl, rfl, HR'.out⟩
set_option maxRecDepth 100000 in
set_option maxHeartbeats 8000000 in
theorem takeS_box_no (W : World) (R : Nat) (j : JobD) (next : Nat) (s : List UInt8) (ns : List Int) (hp : parseP s = some (kBox, ns)) (hn : ns.length ≠ 2) (hs : s.length ≤ 10000) (w1 : World) (he : Env w1) (k1 : Kp W w1) (hWR : W.heap.size ≤ R) (h : Rdr w1 R W.heap.size j next) (hj : j.ok) (hf : j.few 100000) (hnx : next ≤ 20) :
    Calls Tryz.prog 12 #[.pointer (some ⟨R, 0, none⟩), sv s] w1 (HeadOf W R none w1) := by
  have CPA := Lib.hid (parseS_any s hs w1 he)
  have HR := Lib.hid h
  have hRl := h.lt
  clear he h
  go_enter Tryz.func12, Tryz.ntmps12
  go_wp2_with fail
  refine CPA.out.mono ?_
  rintro e w2 ⟨k2, ⟨wd', ns', a, c, hp2, rfl, hrow, hnl⟩ | ⟨hp2, rfl⟩⟩
  rotate_left
  · rw [hp] at hp2; cases hp2
  rw [hp] at hp2
  simp only [Option.some.injEq, Prod.mk.injEq] at hp2
  obtain ⟨rfl, rfl⟩ := hp2
  have HROW := Lib.hid hrow
  obtain ⟨nl, hnle⟩ : ∃ nl, ns.length = nl := ⟨_, rfl⟩
  have HNL := Lib.hid hnle
  clear CPA hrow
  go_wp2_with fail
  refine (verbs_any _).mono ?_
  rintro e w3 ⟨r, rfl, hm, hrw, k3⟩
  have kw3 : Kp w1 w3 := k2.trans (((by (repeat (first | with_reducible assumption | with_reducible exact Kp.refl _ | with_reducible refine Kp.drew ?_ | with_reducible refine Kp.drewN ?_ _ | with_reducible refine Kp.alloc ?_ _ | ((with_reducible refine Kp.setCell ?_ ?_ _); rotate_left; (focus (first | omega | (simp; done) | (simp; omega)))) | with_reducible refine Kp.trans ?_ (by assumption)))) : Kp w2 _).trans k3)
  have kw23 : Kp w2 w3 := ((by (repeat (first | with_reducible assumption | with_reducible exact Kp.refl _ | with_reducible refine Kp.drew ?_ | with_reducible refine Kp.drewN ?_ _ | with_reducible refine Kp.alloc ?_ _ | ((with_reducible refine Kp.setCell ?_ ?_ _); rotate_left; (focus (first | omega | (simp; done) | (simp; omega)))) | with_reducible refine Kp.trans ?_ (by assumption)))) : Kp w2 _).trans k3
  have LK := run_yes (s := ⟨(kBox).toArray⟩) (i := 0) (v := verbV 2 59) hm (by kernel_rfl)
  unfold verbV at LK
  rw [hnle] at hn
  have j1 : ((nl : Int) == 2) = false := beq_eq_false_iff_ne.2 (by omega)
  have j2 : (nl == 2) = false := beq_eq_false_iff_ne.2 hn
  have j3 : decide (nl = 2) = false := decide_eq_false hn
  clear hnle hp
  go_wp2_with fail
  (try go_ret)
  exact ⟨(KeepJ.refl R k1).kp (by (repeat (first | with_reducible assumption | with_reducible exact Kp.refl _ | with_reducible refine Kp.drew ?_ | with_reducible refine Kp.drewN ?_ _ | with_reducible refine Kp.alloc ?_ _ | ((with_reducible refine Kp.setCell ?_ ?_ _); rotate_left; (focus (first | omega | (simp; done) | (simp; omega)))) | with_reducible refine Kp.trans ?_ (by assumption)))), Nat.lt_of_lt_of_le hRl ((by (repeat (first | with_reducible assumption | with_reducible exact Kp.refl _ | with_reducible refine Kp.drew ?_ | with_reducible refine Kp.drewN ?_ _ | with_reducible refine Kp.alloc ?_ _ | ((with_reducible refine Kp.setCell ?_ ?_ _); rotate_left; (focus (first | omega | (simp; done) | (simp; omega)))) | with_reducible refine Kp.trans ?_ (by assumption)))) : Kp w1 _).size, rfl⟩
set_option maxRecDepth 100000 in
set_option maxHeartbeats 8000000 in
theorem takeS_box (W : World) (R : Nat) (j : JobD) (next : Nat) (s : List UInt8) (x0 x1 : Int) (hp : parseP s = some (kBox, [x0, x1])) (hs : s.length ≤ 10000) (w1 : World) (he : Env w1) (k1 : Kp W w1) (hWR : W.heap.size ≤ R) (h : Rdr w1 R W.heap.size j next) (hj : j.ok) (hf : j.few 100000) (hnx : next ≤ 20) :
    Calls Tryz.prog 12 #[.pointer (some ⟨R, 0, none⟩), sv s] w1 (HeadOf W R (some ({ j with items := j.items ++ [⟨1, x0, x1, 0, 0, 0, 0⟩] }, 20)) w1) := by
  have CPA := Lib.hid (parseS_any s hs w1 he)
  have HR := Lib.hid h
  have hRl := h.lt
  clear he h
  go_enter Tryz.func12, Tryz.ntmps12
  go_wp2_with fail
  refine CPA.out.mono ?_
  rintro e w2 ⟨k2, ⟨wd', ns', a, c, hp2, rfl, hrow, hnl⟩ | ⟨hp2, rfl⟩⟩
  rotate_left
  · rw [hp] at hp2; cases hp2
  rw [hp] at hp2
  simp only [Option.some.injEq, Prod.mk.injEq] at hp2
  obtain ⟨rfl, rfl⟩ := hp2
  have HROW := Lib.hid hrow
  clear CPA hrow
  go_wp2_with fail
  refine (verbs_any _).mono ?_
  rintro e w3 ⟨r, rfl, hm, hrw, k3⟩
  have kw3 : Kp w1 w3 := k2.trans (((by (repeat (first | with_reducible assumption | with_reducible exact Kp.refl _ | with_reducible refine Kp.drew ?_ | with_reducible refine Kp.drewN ?_ _ | with_reducible refine Kp.alloc ?_ _ | ((with_reducible refine Kp.setCell ?_ ?_ _); rotate_left; (focus (first | omega | (simp; done) | (simp; omega)))) | with_reducible refine Kp.trans ?_ (by assumption)))) : Kp w2 _).trans k3)
  have kw23 : Kp w2 w3 := ((by (repeat (first | with_reducible assumption | with_reducible exact Kp.refl _ | with_reducible refine Kp.drew ?_ | with_reducible refine Kp.drewN ?_ _ | with_reducible refine Kp.alloc ?_ _ | ((with_reducible refine Kp.setCell ?_ ?_ _); rotate_left; (focus (first | omega | (simp; done) | (simp; omega)))) | with_reducible refine Kp.trans ?_ (by assumption)))) : Kp w2 _).trans k3
  have LK := run_yes (s := ⟨(kBox).toArray⟩) (i := 0) (v := verbV 2 59) hm (by kernel_rfl)
  unfold verbV at LK
  clear hp
  go_wp2_with fail
  refine (gauges_any _).mono ?_
  rintro e w5 ⟨b, rfl, hG, hbw, k5⟩
  have kw5 : Kp w1 w5 := (kw3.alloc (.cells #[.int .i64 2, .func (Fn.func 59) #[] #[]] 79)).trans k5
  have kw25 : Kp w2 w5 := (kw23.alloc (.cells #[.int .i64 2, .func (Fn.func 59) #[] #[]] 79)).trans k5
  have bv : Blk w5 w3.heap.size [.int .i64 2, .func (Fn.func 59) #[] #[]] 79 := (Blk.new w3 [.int .i64 2, .func (Fn.func 59) #[] #[]] 79).kp k5
  have v1 := bv.cell 1 rfl
  have v0 := bv.cell 0 rfl
  obtain ⟨iv, nv, fv, hB, hJ⟩ := HR.out.kp kw5
  have d22 := hB.cell 22 (rdr_hi hj.len 4)
  have f22 := hB.free 22
  have hRl5 := hB.lt
  have hR3 : R < w3.heap.size := Nat.lt_of_lt_of_le hRl kw3.size
  have hne : R ≠ w3.heap.size := by omega
  have hne2 : w3.heap.size ≠ R := by omega
  have zB := hB.set 22 (.int .i64 20)
  rw [rdr_22 hj.len] at zB
  have zJ := hJ.move (TypedJ.away hB notJt_rdr 22 (.int .i64 20))
  have HRX : Hid (Rdr (w5.setCell ⟨R, 22, none⟩ (.int .i64 20)) R W.heap.size j 20) := Lib.hid ⟨_, _, _, zB, zJ⟩
  have HrX := Lib.hid (row_away (HROW.out.kp kw25) hB (by decide) 22 (.int .i64 20))
  have HkX := Lib.hid (Kp.setCell (k1.trans kw5) hWR (.int .i64 20) : Kp W (w5.setCell ⟨R, 22, none⟩ (.int .i64 20)))
  have HKX := Lib.hid (((KeepJ.refl R k1).kp kw5).set hWR 22 (.int .i64 20))
  have vl := bv.lt
  clear zB zJ hB hJ bv HROW hm
  go_wp2_with fail
  have hRX := HRX.out
  have hrX := HrX.out
  have kX := HkX.out
  refine (verb_box W R j 20 w1.heap.size a c x0 x1 _ kX hWR hRX hj.len (by have := hf.1; omega) hrX).mono ?_
  rintro e w6 ⟨rfl, hR6, hK6⟩
  have hl6 := hR6.lt
  have HR6 := Lib.hid hR6
  have hKK := HKX.out.trans hK6
  clear hR6 hRX hrX kX
  go_wp2_with fail
  (try go_ret)
  exact ⟨hKK, hl6, rfl, HR6.out⟩
set_option maxRecDepth 100000 in
set_option maxHeartbeats 8000000 in
theorem takeS_glue_no (W : World) (R : Nat) (j : JobD) (next : Nat) (s : List UInt8) (ns : List Int) (hp : parseP s = some (kGlue, ns)) (hn : ns.length ≠ 4) (hs : s.length ≤ 10000) (w1 : World) (he : Env w1) (k1 : Kp W w1) (hWR : W.heap.size ≤ R) (h : Rdr w1 R W.heap.size j next) (hj : j.ok) (hf : j.few 100000) (hnx : next ≤ 20) :
    Calls Tryz.prog 12 #[.pointer (some ⟨R, 0, none⟩), sv s] w1 (HeadOf W R none w1) := by
  have CPA := Lib.hid (parseS_any s hs w1 he)
  have HR := Lib.hid h
  have hRl := h.lt
  clear he h
  go_enter Tryz.func12, Tryz.ntmps12
  go_wp2_with fail
  refine CPA.out.mono ?_
  rintro e w2 ⟨k2, ⟨wd', ns', a, c, hp2, rfl, hrow, hnl⟩ | ⟨hp2, rfl⟩⟩
  rotate_left
  · rw [hp] at hp2; cases hp2
  rw [hp] at hp2
  simp only [Option.some.injEq, Prod.mk.injEq] at hp2
  obtain ⟨rfl, rfl⟩ := hp2
  have HROW := Lib.hid hrow
  obtain ⟨nl, hnle⟩ : ∃ nl, ns.length = nl := ⟨_, rfl⟩
  have HNL := Lib.hid hnle
  clear CPA hrow
  go_wp2_with fail
  refine (verbs_any _).mono ?_
  rintro e w3 ⟨r, rfl, hm, hrw, k3⟩
  have kw3 : Kp w1 w3 := k2.trans (((by (repeat (first | with_reducible assumption | with_reducible exact Kp.refl _ | with_reducible refine Kp.drew ?_ | with_reducible refine Kp.drewN ?_ _ | with_reducible refine Kp.alloc ?_ _ | ((with_reducible refine Kp.setCell ?_ ?_ _); rotate_left; (focus (first | omega | (simp; done) | (simp; omega)))) | with_reducible refine Kp.trans ?_ (by assumption)))) : Kp w2 _).trans k3)
  have kw23 : Kp w2 w3 := ((by (repeat (first | with_reducible assumption | with_reducible exact Kp.refl _ | with_reducible refine Kp.drew ?_ | with_reducible refine Kp.drewN ?_ _ | with_reducible refine Kp.alloc ?_ _ | ((with_reducible refine Kp.setCell ?_ ?_ _); rotate_left; (focus (first | omega | (simp; done) | (simp; omega)))) | with_reducible refine Kp.trans ?_ (by assumption)))) : Kp w2 _).trans k3
  have LK := run_yes (s := ⟨(kGlue).toArray⟩) (i := 1) (v := verbV 4 60) hm (by kernel_rfl)
  unfold verbV at LK
  rw [hnle] at hn
  have j1 : ((nl : Int) == 4) = false := beq_eq_false_iff_ne.2 (by omega)
  have j2 : (nl == 4) = false := beq_eq_false_iff_ne.2 hn
  have j3 : decide (nl = 4) = false := decide_eq_false hn
  clear hnle hp
  go_wp2_with fail
  (try go_ret)
  exact ⟨(KeepJ.refl R k1).kp (by (repeat (first | with_reducible assumption | with_reducible exact Kp.refl _ | with_reducible refine Kp.drew ?_ | with_reducible refine Kp.drewN ?_ _ | with_reducible refine Kp.alloc ?_ _ | ((with_reducible refine Kp.setCell ?_ ?_ _); rotate_left; (focus (first | omega | (simp; done) | (simp; omega)))) | with_reducible refine Kp.trans ?_ (by assumption)))), Nat.lt_of_lt_of_le hRl ((by (repeat (first | with_reducible assumption | with_reducible exact Kp.refl _ | with_reducible refine Kp.drew ?_ | with_reducible refine Kp.drewN ?_ _ | with_reducible refine Kp.alloc ?_ _ | ((with_reducible refine Kp.setCell ?_ ?_ _); rotate_left; (focus (first | omega | (simp; done) | (simp; omega)))) | with_reducible refine Kp.trans ?_ (by assumption)))) : Kp w1 _).size, rfl⟩
set_option maxRecDepth 100000 in
set_option maxHeartbeats 8000000 in
theorem takeS_glue (W : World) (R : Nat) (j : JobD) (next : Nat) (s : List UInt8) (x0 x1 x2 x3 : Int) (hp : parseP s = some (kGlue, [x0, x1, x2, x3])) (hs : s.length ≤ 10000) (w1 : World) (he : Env w1) (k1 : Kp W w1) (hWR : W.heap.size ≤ R) (h : Rdr w1 R W.heap.size j next) (hj : j.ok) (hf : j.few 100000) (hnx : next ≤ 20) :
    Calls Tryz.prog 12 #[.pointer (some ⟨R, 0, none⟩), sv s] w1 (HeadOf W R (some ({ j with items := j.items ++ [⟨2, x0, 0, x1, x2, x3, 0⟩] }, 20)) w1) := by
  have CPA := Lib.hid (parseS_any s hs w1 he)
  have HR := Lib.hid h
  have hRl := h.lt
  clear he h
  go_enter Tryz.func12, Tryz.ntmps12
  go_wp2_with fail
  refine CPA.out.mono ?_
  rintro e w2 ⟨k2, ⟨wd', ns', a, c, hp2, rfl, hrow, hnl⟩ | ⟨hp2, rfl⟩⟩
  rotate_left
  · rw [hp] at hp2; cases hp2
  rw [hp] at hp2
  simp only [Option.some.injEq, Prod.mk.injEq] at hp2
  obtain ⟨rfl, rfl⟩ := hp2
  have HROW := Lib.hid hrow
  clear CPA hrow
  go_wp2_with fail
  refine (verbs_any _).mono ?_
  rintro e w3 ⟨r, rfl, hm, hrw, k3⟩
  have kw3 : Kp w1 w3 := k2.trans (((by (repeat (first | with_reducible assumption | with_reducible exact Kp.refl _ | with_reducible refine Kp.drew ?_ | with_reducible refine Kp.drewN ?_ _ | with_reducible refine Kp.alloc ?_ _ | ((with_reducible refine Kp.setCell ?_ ?_ _); rotate_left; (focus (first | omega | (simp; done) | (simp; omega)))) | with_reducible refine Kp.trans ?_ (by assumption)))) : Kp w2 _).trans k3)
  have kw23 : Kp w2 w3 := ((by (repeat (first | with_reducible assumption | with_reducible exact Kp.refl _ | with_reducible refine Kp.drew ?_ | with_reducible refine Kp.drewN ?_ _ | with_reducible refine Kp.alloc ?_ _ | ((with_reducible refine Kp.setCell ?_ ?_ _); rotate_left; (focus (first | omega | (simp; done) | (simp; omega)))) | with_reducible refine Kp.trans ?_ (by assumption)))) : Kp w2 _).trans k3
  have LK := run_yes (s := ⟨(kGlue).toArray⟩) (i := 1) (v := verbV 4 60) hm (by kernel_rfl)
  unfold verbV at LK
  clear hp
  go_wp2_with fail
  refine (gauges_any _).mono ?_
  rintro e w5 ⟨b, rfl, hG, hbw, k5⟩
  have kw5 : Kp w1 w5 := (kw3.alloc (.cells #[.int .i64 4, .func (Fn.func 60) #[] #[]] 79)).trans k5
  have kw25 : Kp w2 w5 := (kw23.alloc (.cells #[.int .i64 4, .func (Fn.func 60) #[] #[]] 79)).trans k5
  have bv : Blk w5 w3.heap.size [.int .i64 4, .func (Fn.func 60) #[] #[]] 79 := (Blk.new w3 [.int .i64 4, .func (Fn.func 60) #[] #[]] 79).kp k5
  have v1 := bv.cell 1 rfl
  have v0 := bv.cell 0 rfl
  obtain ⟨iv, nv, fv, hB, hJ⟩ := HR.out.kp kw5
  have d22 := hB.cell 22 (rdr_hi hj.len 4)
  have f22 := hB.free 22
  have hRl5 := hB.lt
  have hR3 : R < w3.heap.size := Nat.lt_of_lt_of_le hRl kw3.size
  have hne : R ≠ w3.heap.size := by omega
  have hne2 : w3.heap.size ≠ R := by omega
  have zB := hB.set 22 (.int .i64 20)
  rw [rdr_22 hj.len] at zB
  have zJ := hJ.move (TypedJ.away hB notJt_rdr 22 (.int .i64 20))
  have HRX : Hid (Rdr (w5.setCell ⟨R, 22, none⟩ (.int .i64 20)) R W.heap.size j 20) := Lib.hid ⟨_, _, _, zB, zJ⟩
  have HrX := Lib.hid (row_away (HROW.out.kp kw25) hB (by decide) 22 (.int .i64 20))
  have HkX := Lib.hid (Kp.setCell (k1.trans kw5) hWR (.int .i64 20) : Kp W (w5.setCell ⟨R, 22, none⟩ (.int .i64 20)))
  have HKX := Lib.hid (((KeepJ.refl R k1).kp kw5).set hWR 22 (.int .i64 20))
  have vl := bv.lt
  clear zB zJ hB hJ bv HROW hm
  go_wp2_with fail
  have hRX := HRX.out
  have hrX := HrX.out
  have kX := HkX.out
  refine (verb_glue W R j 20 w1.heap.size a c x0 x1 x2 x3 _ kX hWR hRX hj.len (by have := hf.1; omega) hrX).mono ?_
  rintro e w6 ⟨rfl, hR6, hK6⟩
  have hl6 := hR6.lt
  have HR6 := Lib.hid hR6
  have hKK := HKX.out.trans hK6
  clear hR6 hRX hrX kX
  go_wp2_with fail
  (try go_ret)
  exact ⟨hKK, hl6, rfl, HR6.out⟩
set_option maxRecDepth 100000 in
set_option maxHeartbeats 8000000 in
theorem takeS_pen_no (W : World) (R : Nat) (j : JobD) (next : Nat) (s : List UInt8) (ns : List Int) (hp : parseP s = some (kPen, ns)) (hn : ns.length ≠ 1) (hs : s.length ≤ 10000) (w1 : World) (he : Env w1) (k1 : Kp W w1) (hWR : W.heap.size ≤ R) (h : Rdr w1 R W.heap.size j next) (hj : j.ok) (hf : j.few 100000) (hnx : next ≤ 20) :
    Calls Tryz.prog 12 #[.pointer (some ⟨R, 0, none⟩), sv s] w1 (HeadOf W R none w1) := by
  have CPA := Lib.hid (parseS_any s hs w1 he)
  have HR := Lib.hid h
  have hRl := h.lt
  clear he h
  go_enter Tryz.func12, Tryz.ntmps12
  go_wp2_with fail
  refine CPA.out.mono ?_
  rintro e w2 ⟨k2, ⟨wd', ns', a, c, hp2, rfl, hrow, hnl⟩ | ⟨hp2, rfl⟩⟩
  rotate_left
  · rw [hp] at hp2; cases hp2
  rw [hp] at hp2
  simp only [Option.some.injEq, Prod.mk.injEq] at hp2
  obtain ⟨rfl, rfl⟩ := hp2
  have HROW := Lib.hid hrow
  obtain ⟨nl, hnle⟩ : ∃ nl, ns.length = nl := ⟨_, rfl⟩
  have HNL := Lib.hid hnle
  clear CPA hrow
  go_wp2_with fail
  refine (verbs_any _).mono ?_
  rintro e w3 ⟨r, rfl, hm, hrw, k3⟩
  have kw3 : Kp w1 w3 := k2.trans (((by (repeat (first | with_reducible assumption | with_reducible exact Kp.refl _ | with_reducible refine Kp.drew ?_ | with_reducible refine Kp.drewN ?_ _ | with_reducible refine Kp.alloc ?_ _ | ((with_reducible refine Kp.setCell ?_ ?_ _); rotate_left; (focus (first | omega | (simp; done) | (simp; omega)))) | with_reducible refine Kp.trans ?_ (by assumption)))) : Kp w2 _).trans k3)
  have kw23 : Kp w2 w3 := ((by (repeat (first | with_reducible assumption | with_reducible exact Kp.refl _ | with_reducible refine Kp.drew ?_ | with_reducible refine Kp.drewN ?_ _ | with_reducible refine Kp.alloc ?_ _ | ((with_reducible refine Kp.setCell ?_ ?_ _); rotate_left; (focus (first | omega | (simp; done) | (simp; omega)))) | with_reducible refine Kp.trans ?_ (by assumption)))) : Kp w2 _).trans k3
  have LK := run_yes (s := ⟨(kPen).toArray⟩) (i := 2) (v := verbV 1 61) hm (by kernel_rfl)
  unfold verbV at LK
  rw [hnle] at hn
  have j1 : ((nl : Int) == 1) = false := beq_eq_false_iff_ne.2 (by omega)
  have j2 : (nl == 1) = false := beq_eq_false_iff_ne.2 hn
  have j3 : decide (nl = 1) = false := decide_eq_false hn
  clear hnle hp
  go_wp2_with fail
  (try go_ret)
  exact ⟨(KeepJ.refl R k1).kp (by (repeat (first | with_reducible assumption | with_reducible exact Kp.refl _ | with_reducible refine Kp.drew ?_ | with_reducible refine Kp.drewN ?_ _ | with_reducible refine Kp.alloc ?_ _ | ((with_reducible refine Kp.setCell ?_ ?_ _); rotate_left; (focus (first | omega | (simp; done) | (simp; omega)))) | with_reducible refine Kp.trans ?_ (by assumption)))), Nat.lt_of_lt_of_le hRl ((by (repeat (first | with_reducible assumption | with_reducible exact Kp.refl _ | with_reducible refine Kp.drew ?_ | with_reducible refine Kp.drewN ?_ _ | with_reducible refine Kp.alloc ?_ _ | ((with_reducible refine Kp.setCell ?_ ?_ _); rotate_left; (focus (first | omega | (simp; done) | (simp; omega)))) | with_reducible refine Kp.trans ?_ (by assumption)))) : Kp w1 _).size, rfl⟩
set_option maxRecDepth 100000 in
set_option maxHeartbeats 8000000 in
theorem takeS_pen (W : World) (R : Nat) (j : JobD) (next : Nat) (s : List UInt8) (x0 : Int) (hp : parseP s = some (kPen, [x0])) (hs : s.length ≤ 10000) (w1 : World) (he : Env w1) (k1 : Kp W w1) (hWR : W.heap.size ≤ R) (h : Rdr w1 R W.heap.size j next) (hj : j.ok) (hf : j.few 100000) (hnx : next ≤ 20) :
    Calls Tryz.prog 12 #[.pointer (some ⟨R, 0, none⟩), sv s] w1 (HeadOf W R (some ({ j with items := j.items ++ [⟨3, 0, 0, 0, 0, 0, x0⟩] }, 20)) w1) := by
  have CPA := Lib.hid (parseS_any s hs w1 he)
  have HR := Lib.hid h
  have hRl := h.lt
  clear he h
  go_enter Tryz.func12, Tryz.ntmps12
  go_wp2_with fail
  refine CPA.out.mono ?_
  rintro e w2 ⟨k2, ⟨wd', ns', a, c, hp2, rfl, hrow, hnl⟩ | ⟨hp2, rfl⟩⟩
  rotate_left
  · rw [hp] at hp2; cases hp2
  rw [hp] at hp2
  simp only [Option.some.injEq, Prod.mk.injEq] at hp2
  obtain ⟨rfl, rfl⟩ := hp2
  have HROW := Lib.hid hrow
  clear CPA hrow
  go_wp2_with fail
  refine (verbs_any _).mono ?_
  rintro e w3 ⟨r, rfl, hm, hrw, k3⟩
  have kw3 : Kp w1 w3 := k2.trans (((by (repeat (first | with_reducible assumption | with_reducible exact Kp.refl _ | with_reducible refine Kp.drew ?_ | with_reducible refine Kp.drewN ?_ _ | with_reducible refine Kp.alloc ?_ _ | ((with_reducible refine Kp.setCell ?_ ?_ _); rotate_left; (focus (first | omega | (simp; done) | (simp; omega)))) | with_reducible refine Kp.trans ?_ (by assumption)))) : Kp w2 _).trans k3)
  have kw23 : Kp w2 w3 := ((by (repeat (first | with_reducible assumption | with_reducible exact Kp.refl _ | with_reducible refine Kp.drew ?_ | with_reducible refine Kp.drewN ?_ _ | with_reducible refine Kp.alloc ?_ _ | ((with_reducible refine Kp.setCell ?_ ?_ _); rotate_left; (focus (first | omega | (simp; done) | (simp; omega)))) | with_reducible refine Kp.trans ?_ (by assumption)))) : Kp w2 _).trans k3
  have LK := run_yes (s := ⟨(kPen).toArray⟩) (i := 2) (v := verbV 1 61) hm (by kernel_rfl)
  unfold verbV at LK
  clear hp
  go_wp2_with fail
  refine (gauges_any _).mono ?_
  rintro e w5 ⟨b, rfl, hG, hbw, k5⟩
  have kw5 : Kp w1 w5 := (kw3.alloc (.cells #[.int .i64 1, .func (Fn.func 61) #[] #[]] 79)).trans k5
  have kw25 : Kp w2 w5 := (kw23.alloc (.cells #[.int .i64 1, .func (Fn.func 61) #[] #[]] 79)).trans k5
  have bv : Blk w5 w3.heap.size [.int .i64 1, .func (Fn.func 61) #[] #[]] 79 := (Blk.new w3 [.int .i64 1, .func (Fn.func 61) #[] #[]] 79).kp k5
  have v1 := bv.cell 1 rfl
  have v0 := bv.cell 0 rfl
  obtain ⟨iv, nv, fv, hB, hJ⟩ := HR.out.kp kw5
  have d22 := hB.cell 22 (rdr_hi hj.len 4)
  have f22 := hB.free 22
  have hRl5 := hB.lt
  have hR3 : R < w3.heap.size := Nat.lt_of_lt_of_le hRl kw3.size
  have hne : R ≠ w3.heap.size := by omega
  have hne2 : w3.heap.size ≠ R := by omega
  have zB := hB.set 22 (.int .i64 20)
  rw [rdr_22 hj.len] at zB
  have zJ := hJ.move (TypedJ.away hB notJt_rdr 22 (.int .i64 20))
  have HRX : Hid (Rdr (w5.setCell ⟨R, 22, none⟩ (.int .i64 20)) R W.heap.size j 20) := Lib.hid ⟨_, _, _, zB, zJ⟩
  have HrX := Lib.hid (row_away (HROW.out.kp kw25) hB (by decide) 22 (.int .i64 20))
  have HkX := Lib.hid (Kp.setCell (k1.trans kw5) hWR (.int .i64 20) : Kp W (w5.setCell ⟨R, 22, none⟩ (.int .i64 20)))
  have HKX := Lib.hid (((KeepJ.refl R k1).kp kw5).set hWR 22 (.int .i64 20))
  have vl := bv.lt
  clear zB zJ hB hJ bv HROW hm
  go_wp2_with fail
  have hRX := HRX.out
  have hrX := HrX.out
  have kX := HkX.out
  refine (verb_pen W R j 20 w1.heap.size a c x0 _ kX hWR hRX hj.len (by have := hf.1; omega) hrX).mono ?_
  rintro e w6 ⟨rfl, hR6, hK6⟩
  have hl6 := hR6.lt
  have HR6 := Lib.hid hR6
  have hKK := HKX.out.trans hK6
  clear hR6 hRX hrX kX
  go_wp2_with fail
  (try go_ret)
  exact ⟨hKK, hl6, rfl, HR6.out⟩
set_option maxRecDepth 100000 in
set_option maxHeartbeats 8000000 in
theorem takeS_mark_no (W : World) (R : Nat) (j : JobD) (next : Nat) (s : List UInt8) (ns : List Int) (hp : parseP s = some (kMark, ns)) (hn : ns.length ≠ 1) (hs : s.length ≤ 10000) (w1 : World) (he : Env w1) (k1 : Kp W w1) (hWR : W.heap.size ≤ R) (h : Rdr w1 R W.heap.size j next) (hj : j.ok) (hf : j.few 100000) (hnx : next ≤ 20) :
    Calls Tryz.prog 12 #[.pointer (some ⟨R, 0, none⟩), sv s] w1 (HeadOf W R none w1) := by
  have CPA := Lib.hid (parseS_any s hs w1 he)
  have HR := Lib.hid h
  have hRl := h.lt
  clear he h
  go_enter Tryz.func12, Tryz.ntmps12
  go_wp2_with fail
  refine CPA.out.mono ?_
  rintro e w2 ⟨k2, ⟨wd', ns', a, c, hp2, rfl, hrow, hnl⟩ | ⟨hp2, rfl⟩⟩
  rotate_left
  · rw [hp] at hp2; cases hp2
  rw [hp] at hp2
  simp only [Option.some.injEq, Prod.mk.injEq] at hp2
  obtain ⟨rfl, rfl⟩ := hp2
  have HROW := Lib.hid hrow
  obtain ⟨nl, hnle⟩ : ∃ nl, ns.length = nl := ⟨_, rfl⟩
  have HNL := Lib.hid hnle
  clear CPA hrow
  go_wp2_with fail
  refine (verbs_any _).mono ?_
  rintro e w3 ⟨r, rfl, hm, hrw, k3⟩
  have kw3 : Kp w1 w3 := k2.trans (((by (repeat (first | with_reducible assumption | with_reducible exact Kp.refl _ | with_reducible refine Kp.drew ?_ | with_reducible refine Kp.drewN ?_ _ | with_reducible refine Kp.alloc ?_ _ | ((with_reducible refine Kp.setCell ?_ ?_ _); rotate_left; (focus (first | omega | (simp; done) | (simp; omega)))) | with_reducible refine Kp.trans ?_ (by assumption)))) : Kp w2 _).trans k3)
  have kw23 : Kp w2 w3 := ((by (repeat (first | with_reducible assumption | with_reducible exact Kp.refl _ | with_reducible refine Kp.drew ?_ | with_reducible refine Kp.drewN ?_ _ | with_reducible refine Kp.alloc ?_ _ | ((with_reducible refine Kp.setCell ?_ ?_ _); rotate_left; (focus (first | omega | (simp; done) | (simp; omega)))) | with_reducible refine Kp.trans ?_ (by assumption)))) : Kp w2 _).trans k3
  have LK := run_yes (s := ⟨(kMark).toArray⟩) (i := 3) (v := verbV 1 62) hm (by kernel_rfl)
  unfold verbV at LK
  rw [hnle] at hn
  have j1 : ((nl : Int) == 1) = false := beq_eq_false_iff_ne.2 (by omega)
  have j2 : (nl == 1) = false := beq_eq_false_iff_ne.2 hn
  have j3 : decide (nl = 1) = false := decide_eq_false hn
  clear hnle hp
  go_wp2_with fail
  (try go_ret)
  exact ⟨(KeepJ.refl R k1).kp (by (repeat (first | with_reducible assumption | with_reducible exact Kp.refl _ | with_reducible refine Kp.drew ?_ | with_reducible refine Kp.drewN ?_ _ | with_reducible refine Kp.alloc ?_ _ | ((with_reducible refine Kp.setCell ?_ ?_ _); rotate_left; (focus (first | omega | (simp; done) | (simp; omega)))) | with_reducible refine Kp.trans ?_ (by assumption)))), Nat.lt_of_lt_of_le hRl ((by (repeat (first | with_reducible assumption | with_reducible exact Kp.refl _ | with_reducible refine Kp.drew ?_ | with_reducible refine Kp.drewN ?_ _ | with_reducible refine Kp.alloc ?_ _ | ((with_reducible refine Kp.setCell ?_ ?_ _); rotate_left; (focus (first | omega | (simp; done) | (simp; omega)))) | with_reducible refine Kp.trans ?_ (by assumption)))) : Kp w1 _).size, rfl⟩
set_option maxRecDepth 100000 in
set_option maxHeartbeats 8000000 in
theorem takeS_mark (W : World) (R : Nat) (j : JobD) (next : Nat) (s : List UInt8) (x0 : Int) (hp : parseP s = some (kMark, [x0])) (hs : s.length ≤ 10000) (w1 : World) (he : Env w1) (k1 : Kp W w1) (hWR : W.heap.size ≤ R) (h : Rdr w1 R W.heap.size j next) (hj : j.ok) (hf : j.few 100000) (hnx : next ≤ 20) :
    Calls Tryz.prog 12 #[.pointer (some ⟨R, 0, none⟩), sv s] w1 (HeadOf W R (some ({ j with items := j.items ++ [⟨4, 0, 0, 0, 0, 0, x0⟩] }, 20)) w1) := by
  have CPA := Lib.hid (parseS_any s hs w1 he)
  have HR := Lib.hid h
  have hRl := h.lt
  clear he h
  go_enter Tryz.func12, Tryz.ntmps12
  go_wp2_with fail
  refine CPA.out.mono ?_
  rintro e w2 ⟨k2, ⟨wd', ns', a, c, hp2, rfl, hrow, hnl⟩ | ⟨hp2, rfl⟩⟩
  rotate_left
  · rw [hp] at hp2; cases hp2
  rw [hp] at hp2
  simp only [Option.some.injEq, Prod.mk.injEq] at hp2
  obtain ⟨rfl, rfl⟩ := hp2
  have HROW := Lib.hid hrow
  clear CPA hrow
  go_wp2_with fail
  refine (verbs_any _).mono ?_
  rintro e w3 ⟨r, rfl, hm, hrw, k3⟩
  have kw3 : Kp w1 w3 := k2.trans (((by (repeat (first | with_reducible assumption | with_reducible exact Kp.refl _ | with_reducible refine Kp.drew ?_ | with_reducible refine Kp.drewN ?_ _ | with_reducible refine Kp.alloc ?_ _ | ((with_reducible refine Kp.setCell ?_ ?_ _); rotate_left; (focus (first | omega | (simp; done) | (simp; omega)))) | with_reducible refine Kp.trans ?_ (by assumption)))) : Kp w2 _).trans k3)
  have kw23 : Kp w2 w3 := ((by (repeat (first | with_reducible assumption | with_reducible exact Kp.refl _ | with_reducible refine Kp.drew ?_ | with_reducible refine Kp.drewN ?_ _ | with_reducible refine Kp.alloc ?_ _ | ((with_reducible refine Kp.setCell ?_ ?_ _); rotate_left; (focus (first | omega | (simp; done) | (simp; omega)))) | with_reducible refine Kp.trans ?_ (by assumption)))) : Kp w2 _).trans k3
  have LK := run_yes (s := ⟨(kMark).toArray⟩) (i := 3) (v := verbV 1 62) hm (by kernel_rfl)
  unfold verbV at LK
  clear hp
  go_wp2_with fail
  refine (gauges_any _).mono ?_
  rintro e w5 ⟨b, rfl, hG, hbw, k5⟩
  have kw5 : Kp w1 w5 := (kw3.alloc (.cells #[.int .i64 1, .func (Fn.func 62) #[] #[]] 79)).trans k5
  have kw25 : Kp w2 w5 := (kw23.alloc (.cells #[.int .i64 1, .func (Fn.func 62) #[] #[]] 79)).trans k5
  have bv : Blk w5 w3.heap.size [.int .i64 1, .func (Fn.func 62) #[] #[]] 79 := (Blk.new w3 [.int .i64 1, .func (Fn.func 62) #[] #[]] 79).kp k5
  have v1 := bv.cell 1 rfl
  have v0 := bv.cell 0 rfl
  obtain ⟨iv, nv, fv, hB, hJ⟩ := HR.out.kp kw5
  have d22 := hB.cell 22 (rdr_hi hj.len 4)
  have f22 := hB.free 22
  have hRl5 := hB.lt
  have hR3 : R < w3.heap.size := Nat.lt_of_lt_of_le hRl kw3.size
  have hne : R ≠ w3.heap.size := by omega
  have hne2 : w3.heap.size ≠ R := by omega
  have zB := hB.set 22 (.int .i64 20)
  rw [rdr_22 hj.len] at zB
  have zJ := hJ.move (TypedJ.away hB notJt_rdr 22 (.int .i64 20))
  have HRX : Hid (Rdr (w5.setCell ⟨R, 22, none⟩ (.int .i64 20)) R W.heap.size j 20) := Lib.hid ⟨_, _, _, zB, zJ⟩
  have HrX := Lib.hid (row_away (HROW.out.kp kw25) hB (by decide) 22 (.int .i64 20))
  have HkX := Lib.hid (Kp.setCell (k1.trans kw5) hWR (.int .i64 20) : Kp W (w5.setCell ⟨R, 22, none⟩ (.int .i64 20)))
  have HKX := Lib.hid (((KeepJ.refl R k1).kp kw5).set hWR 22 (.int .i64 20))
  have vl := bv.lt
  clear zB zJ hB hJ bv HROW hm
  go_wp2_with fail
  have hRX := HRX.out
  have hrX := HrX.out
  have kX := HkX.out
  refine (verb_mark W R j 20 w1.heap.size a c x0 _ kX hWR hRX hj.len (by have := hf.1; omega) hrX).mono ?_
  rintro e w6 ⟨rfl, hR6, hK6⟩
  have hl6 := hR6.lt
  have HR6 := Lib.hid hR6
  have hKK := HKX.out.trans hK6
  clear hR6 hRX hrX kX
  go_wp2_with fail
  (try go_ret)
  exact ⟨hKK, hl6, rfl, HR6.out⟩
set_option maxRecDepth 100000 in
set_option maxHeartbeats 8000000 in
theorem takeS_float_no (W : World) (R : Nat) (j : JobD) (next : Nat) (s : List UInt8) (ns : List Int) (hp : parseP s = some (kFloat, ns)) (hn : ns.length ≠ 3) (hs : s.length ≤ 10000) (w1 : World) (he : Env w1) (k1 : Kp W w1) (hWR : W.heap.size ≤ R) (h : Rdr w1 R W.heap.size j next) (hj : j.ok) (hf : j.few 100000) (hnx : next ≤ 20) :
    Calls Tryz.prog 12 #[.pointer (some ⟨R, 0, none⟩), sv s] w1 (HeadOf W R none w1) := by
  have CPA := Lib.hid (parseS_any s hs w1 he)
  have HR := Lib.hid h
  have hRl := h.lt
  clear he h
  go_enter Tryz.func12, Tryz.ntmps12
  go_wp2_with fail
  refine CPA.out.mono ?_
  rintro e w2 ⟨k2, ⟨wd', ns', a, c, hp2, rfl, hrow, hnl⟩ | ⟨hp2, rfl⟩⟩
  rotate_left
  · rw [hp] at hp2; cases hp2
  rw [hp] at hp2
  simp only [Option.some.injEq, Prod.mk.injEq] at hp2
  obtain ⟨rfl, rfl⟩ := hp2
  have HROW := Lib.hid hrow
  obtain ⟨nl, hnle⟩ : ∃ nl, ns.length = nl := ⟨_, rfl⟩
  have HNL := Lib.hid hnle
  clear CPA hrow
  go_wp2_with fail
  refine (verbs_any _).mono ?_
  rintro e w3 ⟨r, rfl, hm, hrw, k3⟩
  have kw3 : Kp w1 w3 := k2.trans (((by (repeat (first | with_reducible assumption | with_reducible exact Kp.refl _ | with_reducible refine Kp.drew ?_ | with_reducible refine Kp.drewN ?_ _ | with_reducible refine Kp.alloc ?_ _ | ((with_reducible refine Kp.setCell ?_ ?_ _); rotate_left; (focus (first | omega | (simp; done) | (simp; omega)))) | with_reducible refine Kp.trans ?_ (by assumption)))) : Kp w2 _).trans k3)
  have kw23 : Kp w2 w3 := ((by (repeat (first | with_reducible assumption | with_reducible exact Kp.refl _ | with_reducible refine Kp.drew ?_ | with_reducible refine Kp.drewN ?_ _ | with_reducible refine Kp.alloc ?_ _ | ((with_reducible refine Kp.setCell ?_ ?_ _); rotate_left; (focus (first | omega | (simp; done) | (simp; omega)))) | with_reducible refine Kp.trans ?_ (by assumption)))) : Kp w2 _).trans k3
  have LK := run_yes (s := ⟨(kFloat).toArray⟩) (i := 5) (v := verbV 3 64) hm (by kernel_rfl)
  unfold verbV at LK
  rw [hnle] at hn
  have j1 : ((nl : Int) == 3) = false := beq_eq_false_iff_ne.2 (by omega)
  have j2 : (nl == 3) = false := beq_eq_false_iff_ne.2 hn
  have j3 : decide (nl = 3) = false := decide_eq_false hn
  clear hnle hp
  go_wp2_with fail
  (try go_ret)
  exact ⟨(KeepJ.refl R k1).kp (by (repeat (first | with_reducible assumption | with_reducible exact Kp.refl _ | with_reducible refine Kp.drew ?_ | with_reducible refine Kp.drewN ?_ _ | with_reducible refine Kp.alloc ?_ _ | ((with_reducible refine Kp.setCell ?_ ?_ _); rotate_left; (focus (first | omega | (simp; done) | (simp; omega)))) | with_reducible refine Kp.trans ?_ (by assumption)))), Nat.lt_of_lt_of_le hRl ((by (repeat (first | with_reducible assumption | with_reducible exact Kp.refl _ | with_reducible refine Kp.drew ?_ | with_reducible refine Kp.drewN ?_ _ | with_reducible refine Kp.alloc ?_ _ | ((with_reducible refine Kp.setCell ?_ ?_ _); rotate_left; (focus (first | omega | (simp; done) | (simp; omega)))) | with_reducible refine Kp.trans ?_ (by assumption)))) : Kp w1 _).size, rfl⟩
set_option maxRecDepth 100000 in
set_option maxHeartbeats 8000000 in
theorem takeS_float (W : World) (R : Nat) (j : JobD) (next : Nat) (s : List UInt8) (x0 x1 x2 : Int) (hp : parseP s = some (kFloat, [x0, x1, x2])) (hs : s.length ≤ 10000) (w1 : World) (he : Env w1) (k1 : Kp W w1) (hWR : W.heap.size ≤ R) (h : Rdr w1 R W.heap.size j next) (hj : j.ok) (hf : j.few 100000) (hnx : next ≤ 20) :
    Calls Tryz.prog 12 #[.pointer (some ⟨R, 0, none⟩), sv s] w1 (HeadOf W R (some ({ j with items := j.items ++ [⟨6, 0, 0, 0, 0, 0, (j.floats.length : Int)⟩], floats := j.floats ++ [⟨x0, x1, x2⟩] }, 20)) w1) := by
  have CPA := Lib.hid (parseS_any s hs w1 he)
  have HR := Lib.hid h
  have hRl := h.lt
  clear he h
  go_enter Tryz.func12, Tryz.ntmps12
  go_wp2_with fail
  refine CPA.out.mono ?_
  rintro e w2 ⟨k2, ⟨wd', ns', a, c, hp2, rfl, hrow, hnl⟩ | ⟨hp2, rfl⟩⟩
  rotate_left
  · rw [hp] at hp2; cases hp2
  rw [hp] at hp2
  simp only [Option.some.injEq, Prod.mk.injEq] at hp2
  obtain ⟨rfl, rfl⟩ := hp2
  have HROW := Lib.hid hrow
  clear CPA hrow
  go_wp2_with fail
  refine (verbs_any _).mono ?_
  rintro e w3 ⟨r, rfl, hm, hrw, k3⟩
  have kw3 : Kp w1 w3 := k2.trans (((by (repeat (first | with_reducible assumption | with_reducible exact Kp.refl _ | with_reducible refine Kp.drew ?_ | with_reducible refine Kp.drewN ?_ _ | with_reducible refine Kp.alloc ?_ _ | ((with_reducible refine Kp.setCell ?_ ?_ _); rotate_left; (focus (first | omega | (simp; done) | (simp; omega)))) | with_reducible refine Kp.trans ?_ (by assumption)))) : Kp w2 _).trans k3)
  have kw23 : Kp w2 w3 := ((by (repeat (first | with_reducible assumption | with_reducible exact Kp.refl _ | with_reducible refine Kp.drew ?_ | with_reducible refine Kp.drewN ?_ _ | with_reducible refine Kp.alloc ?_ _ | ((with_reducible refine Kp.setCell ?_ ?_ _); rotate_left; (focus (first | omega | (simp; done) | (simp; omega)))) | with_reducible refine Kp.trans ?_ (by assumption)))) : Kp w2 _).trans k3
  have LK := run_yes (s := ⟨(kFloat).toArray⟩) (i := 5) (v := verbV 3 64) hm (by kernel_rfl)
  unfold verbV at LK
  clear hp
  go_wp2_with fail
  refine (gauges_any _).mono ?_
  rintro e w5 ⟨b, rfl, hG, hbw, k5⟩
  have kw5 : Kp w1 w5 := (kw3.alloc (.cells #[.int .i64 3, .func (Fn.func 64) #[] #[]] 79)).trans k5
  have kw25 : Kp w2 w5 := (kw23.alloc (.cells #[.int .i64 3, .func (Fn.func 64) #[] #[]] 79)).trans k5
  have bv : Blk w5 w3.heap.size [.int .i64 3, .func (Fn.func 64) #[] #[]] 79 := (Blk.new w3 [.int .i64 3, .func (Fn.func 64) #[] #[]] 79).kp k5
  have v1 := bv.cell 1 rfl
  have v0 := bv.cell 0 rfl
  obtain ⟨iv, nv, fv, hB, hJ⟩ := HR.out.kp kw5
  have d22 := hB.cell 22 (rdr_hi hj.len 4)
  have f22 := hB.free 22
  have hRl5 := hB.lt
  have hR3 : R < w3.heap.size := Nat.lt_of_lt_of_le hRl kw3.size
  have hne : R ≠ w3.heap.size := by omega
  have hne2 : w3.heap.size ≠ R := by omega
  have zB := hB.set 22 (.int .i64 20)
  rw [rdr_22 hj.len] at zB
  have zJ := hJ.move (TypedJ.away hB notJt_rdr 22 (.int .i64 20))
  have HRX : Hid (Rdr (w5.setCell ⟨R, 22, none⟩ (.int .i64 20)) R W.heap.size j 20) := Lib.hid ⟨_, _, _, zB, zJ⟩
  have HrX := Lib.hid (row_away (HROW.out.kp kw25) hB (by decide) 22 (.int .i64 20))
  have HkX := Lib.hid (Kp.setCell (k1.trans kw5) hWR (.int .i64 20) : Kp W (w5.setCell ⟨R, 22, none⟩ (.int .i64 20)))
  have HKX := Lib.hid (((KeepJ.refl R k1).kp kw5).set hWR 22 (.int .i64 20))
  have vl := bv.lt
  clear zB zJ hB hJ bv HROW hm
  go_wp2_with fail
  have hRX := HRX.out
  have hrX := HrX.out
  have kX := HkX.out
  refine (verb_float W R j 20 w1.heap.size a c x0 x1 x2 _ kX hWR hRX hj.len (by have := hf.1; omega) (by have := hf.2.2; omega) hrX).mono ?_
  rintro e w6 ⟨rfl, hR6, hK6⟩
  have hl6 := hR6.lt
  have HR6 := Lib.hid hR6
  have hKK := HKX.out.trans hK6
  clear hR6 hRX hrX kX
  go_wp2_with fail
  (try go_ret)
  exact ⟨hKK, hl6, rfl, HR6.out⟩
set_option maxRecDepth 100000 in
set_option maxHeartbeats 8000000 in
theorem takeS_barrier_no (W : World) (R : Nat) (j : JobD) (next : Nat) (s : List UInt8) (ns : List Int) (hp : parseP s = some (kBar, ns)) (hn : ns.length ≠ 0) (hs : s.length ≤ 10000) (w1 : World) (he : Env w1) (k1 : Kp W w1) (hWR : W.heap.size ≤ R) (h : Rdr w1 R W.heap.size j next) (hj : j.ok) (hf : j.few 100000) (hnx : next ≤ 20) :
    Calls Tryz.prog 12 #[.pointer (some ⟨R, 0, none⟩), sv s] w1 (HeadOf W R none w1) := by
  have CPA := Lib.hid (parseS_any s hs w1 he)
  have HR := Lib.hid h
  have hRl := h.lt
  clear he h
  go_enter Tryz.func12, Tryz.ntmps12
  go_wp2_with fail
  refine CPA.out.mono ?_
  rintro e w2 ⟨k2, ⟨wd', ns', a, c, hp2, rfl, hrow, hnl⟩ | ⟨hp2, rfl⟩⟩
  rotate_left
  · rw [hp] at hp2; cases hp2
  rw [hp] at hp2
  simp only [Option.some.injEq, Prod.mk.injEq] at hp2
  obtain ⟨rfl, rfl⟩ := hp2
  have HROW := Lib.hid hrow
  obtain ⟨nl, hnle⟩ : ∃ nl, ns.length = nl := ⟨_, rfl⟩
  have HNL := Lib.hid hnle
  clear CPA hrow
  go_wp2_with fail
  refine (verbs_any _).mono ?_
  rintro e w3 ⟨r, rfl, hm, hrw, k3⟩
  have kw3 : Kp w1 w3 := k2.trans (((by (repeat (first | with_reducible assumption | with_reducible exact Kp.refl _ | with_reducible refine Kp.drew ?_ | with_reducible refine Kp.drewN ?_ _ | with_reducible refine Kp.alloc ?_ _ | ((with_reducible refine Kp.setCell ?_ ?_ _); rotate_left; (focus (first | omega | (simp; done) | (simp; omega)))) | with_reducible refine Kp.trans ?_ (by assumption)))) : Kp w2 _).trans k3)
  have kw23 : Kp w2 w3 := ((by (repeat (first | with_reducible assumption | with_reducible exact Kp.refl _ | with_reducible refine Kp.drew ?_ | with_reducible refine Kp.drewN ?_ _ | with_reducible refine Kp.alloc ?_ _ | ((with_reducible refine Kp.setCell ?_ ?_ _); rotate_left; (focus (first | omega | (simp; done) | (simp; omega)))) | with_reducible refine Kp.trans ?_ (by assumption)))) : Kp w2 _).trans k3
  have LK := run_yes (s := ⟨(kBar).toArray⟩) (i := 6) (v := verbV 0 65) hm (by kernel_rfl)
  unfold verbV at LK
  rw [hnle] at hn
  have j1 : ((nl : Int) == 0) = false := beq_eq_false_iff_ne.2 (by omega)
  have j2 : (nl == 0) = false := beq_eq_false_iff_ne.2 hn
  have j3 : decide (nl = 0) = false := decide_eq_false hn
  clear hnle hp
  go_wp2_with fail
  (try go_ret)
  exact ⟨(KeepJ.refl R k1).kp (by (repeat (first | with_reducible assumption | with_reducible exact Kp.refl _ | with_reducible refine Kp.drew ?_ | with_reducible refine Kp.drewN ?_ _ | with_reducible refine Kp.alloc ?_ _ | ((with_reducible refine Kp.setCell ?_ ?_ _); rotate_left; (focus (first | omega | (simp; done) | (simp; omega)))) | with_reducible refine Kp.trans ?_ (by assumption)))), Nat.lt_of_lt_of_le hRl ((by (repeat (first | with_reducible assumption | with_reducible exact Kp.refl _ | with_reducible refine Kp.drew ?_ | with_reducible refine Kp.drewN ?_ _ | with_reducible refine Kp.alloc ?_ _ | ((with_reducible refine Kp.setCell ?_ ?_ _); rotate_left; (focus (first | omega | (simp; done) | (simp; omega)))) | with_reducible refine Kp.trans ?_ (by assumption)))) : Kp w1 _).size, rfl⟩
set_option maxRecDepth 100000 in
set_option maxHeartbeats 8000000 in
theorem takeS_barrier (W : World) (R : Nat) (j : JobD) (next : Nat) (s : List UInt8) (hp : parseP s = some (kBar, [])) (hs : s.length ≤ 10000) (w1 : World) (he : Env w1) (k1 : Kp W w1) (hWR : W.heap.size ≤ R) (h : Rdr w1 R W.heap.size j next) (hj : j.ok) (hf : j.few 100000) (hnx : next ≤ 20) :
    Calls Tryz.prog 12 #[.pointer (some ⟨R, 0, none⟩), sv s] w1 (HeadOf W R (some ({ j with items := j.items ++ [⟨7, 0, 0, 0, 0, 0, 0⟩] }, 20)) w1) := by
  have CPA := Lib.hid (parseS_any s hs w1 he)
  have HR := Lib.hid h
  have hRl := h.lt
  clear he h
  go_enter Tryz.func12, Tryz.ntmps12
  go_wp2_with fail
  refine CPA.out.mono ?_
  rintro e w2 ⟨k2, ⟨wd', ns', a, c, hp2, rfl, hrow, hnl⟩ | ⟨hp2, rfl⟩⟩
  rotate_left
  · rw [hp] at hp2; cases hp2
  rw [hp] at hp2
  simp only [Option.some.injEq, Prod.mk.injEq] at hp2
  obtain ⟨rfl, rfl⟩ := hp2
  have HROW := Lib.hid hrow
  clear CPA hrow
  go_wp2_with fail
  refine (verbs_any _).mono ?_
  rintro e w3 ⟨r, rfl, hm, hrw, k3⟩
  have kw3 : Kp w1 w3 := k2.trans (((by (repeat (first | with_reducible assumption | with_reducible exact Kp.refl _ | with_reducible refine Kp.drew ?_ | with_reducible refine Kp.drewN ?_ _ | with_reducible refine Kp.alloc ?_ _ | ((with_reducible refine Kp.setCell ?_ ?_ _); rotate_left; (focus (first | omega | (simp; done) | (simp; omega)))) | with_reducible refine Kp.trans ?_ (by assumption)))) : Kp w2 _).trans k3)
  have kw23 : Kp w2 w3 := ((by (repeat (first | with_reducible assumption | with_reducible exact Kp.refl _ | with_reducible refine Kp.drew ?_ | with_reducible refine Kp.drewN ?_ _ | with_reducible refine Kp.alloc ?_ _ | ((with_reducible refine Kp.setCell ?_ ?_ _); rotate_left; (focus (first | omega | (simp; done) | (simp; omega)))) | with_reducible refine Kp.trans ?_ (by assumption)))) : Kp w2 _).trans k3
  have LK := run_yes (s := ⟨(kBar).toArray⟩) (i := 6) (v := verbV 0 65) hm (by kernel_rfl)
  unfold verbV at LK
  clear hp
  go_wp2_with fail
  refine (gauges_any _).mono ?_
  rintro e w5 ⟨b, rfl, hG, hbw, k5⟩
  have kw5 : Kp w1 w5 := (kw3.alloc (.cells #[.int .i64 0, .func (Fn.func 65) #[] #[]] 79)).trans k5
  have kw25 : Kp w2 w5 := (kw23.alloc (.cells #[.int .i64 0, .func (Fn.func 65) #[] #[]] 79)).trans k5
  have bv : Blk w5 w3.heap.size [.int .i64 0, .func (Fn.func 65) #[] #[]] 79 := (Blk.new w3 [.int .i64 0, .func (Fn.func 65) #[] #[]] 79).kp k5
  have v1 := bv.cell 1 rfl
  have v0 := bv.cell 0 rfl
  obtain ⟨iv, nv, fv, hB, hJ⟩ := HR.out.kp kw5
  have d22 := hB.cell 22 (rdr_hi hj.len 4)
  have f22 := hB.free 22
  have hRl5 := hB.lt
  have hR3 : R < w3.heap.size := Nat.lt_of_lt_of_le hRl kw3.size
  have hne : R ≠ w3.heap.size := by omega
  have hne2 : w3.heap.size ≠ R := by omega
  have zB := hB.set 22 (.int .i64 20)
  rw [rdr_22 hj.len] at zB
  have zJ := hJ.move (TypedJ.away hB notJt_rdr 22 (.int .i64 20))
  have HRX : Hid (Rdr (w5.setCell ⟨R, 22, none⟩ (.int .i64 20)) R W.heap.size j 20) := Lib.hid ⟨_, _, _, zB, zJ⟩
  have HrX := Lib.hid (row_away (HROW.out.kp kw25) hB (by decide) 22 (.int .i64 20))
  have HkX := Lib.hid (Kp.setCell (k1.trans kw5) hWR (.int .i64 20) : Kp W (w5.setCell ⟨R, 22, none⟩ (.int .i64 20)))
  have HKX := Lib.hid (((KeepJ.refl R k1).kp kw5).set hWR 22 (.int .i64 20))
  have vl := bv.lt
  clear zB zJ hB hJ bv HROW hm
  go_wp2_with fail
  have hRX := HRX.out
  have hrX := HrX.out
  have kX := HkX.out
  refine (verb_barrier W R j 20 _ _ kX hWR hRX hj.len (by have := hf.1; omega)).mono ?_
  rintro e w6 ⟨rfl, hR6, hK6⟩
  have hl6 := hR6.lt
  have HR6 := Lib.hid hR6
  have hKK := HKX.out.trans hK6
  clear hR6 hRX hrX kX
  go_wp2_with fail
  (try go_ret)
  exact ⟨hKK, hl6, rfl, HR6.out⟩
set_option maxRecDepth 100000 in
set_option maxHeartbeats 8000000 in
theorem takeS_note_no (W : World) (R : Nat) (j : JobD) (next : Nat) (s : List UInt8) (ns : List Int) (hp : parseP s = some (kNote, ns)) (hn : ns.length % 2 = 0) (hs : s.length ≤ 10000) (w1 : World) (he : Env w1) (k1 : Kp W w1) (hWR : W.heap.size ≤ R) (h : Rdr w1 R W.heap.size j next) (hj : j.ok) (hf : j.few 100000) (hnx : next ≤ 20) :
    Calls Tryz.prog 12 #[.pointer (some ⟨R, 0, none⟩), sv s] w1 (HeadOf W R none w1) := by
  have CPA := Lib.hid (parseS_any s hs w1 he)
  have HR := Lib.hid h
  have hRl := h.lt
  clear he h
  go_enter Tryz.func12, Tryz.ntmps12
  go_wp2_with fail
  refine CPA.out.mono ?_
  rintro e w2 ⟨k2, ⟨wd', ns', a, c, hp2, rfl, hrow, hnl⟩ | ⟨hp2, rfl⟩⟩
  rotate_left
  · rw [hp] at hp2; cases hp2
  rw [hp] at hp2
  simp only [Option.some.injEq, Prod.mk.injEq] at hp2
  obtain ⟨rfl, rfl⟩ := hp2
  have HROW := Lib.hid hrow
  obtain ⟨nl, hnle⟩ : ∃ nl, ns.length = nl := ⟨_, rfl⟩
  have HNL := Lib.hid hnle
  clear CPA hrow
  go_wp2_with fail
  refine (verbs_any _).mono ?_
  rintro e w3 ⟨r, rfl, hm, hrw, k3⟩
  have kw3 : Kp w1 w3 := k2.trans (((by (repeat (first | with_reducible assumption | with_reducible exact Kp.refl _ | with_reducible refine Kp.drew ?_ | with_reducible refine Kp.drewN ?_ _ | with_reducible refine Kp.alloc ?_ _ | ((with_reducible refine Kp.setCell ?_ ?_ _); rotate_left; (focus (first | omega | (simp; done) | (simp; omega)))) | with_reducible refine Kp.trans ?_ (by assumption)))) : Kp w2 _).trans k3)
  have kw23 : Kp w2 w3 := ((by (repeat (first | with_reducible assumption | with_reducible exact Kp.refl _ | with_reducible refine Kp.drew ?_ | with_reducible refine Kp.drewN ?_ _ | with_reducible refine Kp.alloc ?_ _ | ((with_reducible refine Kp.setCell ?_ ?_ _); rotate_left; (focus (first | omega | (simp; done) | (simp; omega)))) | with_reducible refine Kp.trans ?_ (by assumption)))) : Kp w2 _).trans k3
  have LK := run_yes (s := ⟨(kNote).toArray⟩) (i := 4) (v := verbV (-1) 63) hm (by kernel_rfl)
  unfold verbV at LK
  rw [hnle] at hn
  have j1 : ((nl : Int).tmod 2 == 0) = true := beq_iff_eq.2 (by rw [Int.tmod_eq_emod_of_nonneg (by omega)]; omega)
  clear hnle hp
  go_wp2_with fail
  (try go_ret)
  exact ⟨(KeepJ.refl R k1).kp (by (repeat (first | with_reducible assumption | with_reducible exact Kp.refl _ | with_reducible refine Kp.drew ?_ | with_reducible refine Kp.drewN ?_ _ | with_reducible refine Kp.alloc ?_ _ | ((with_reducible refine Kp.setCell ?_ ?_ _); rotate_left; (focus (first | omega | (simp; done) | (simp; omega)))) | with_reducible refine Kp.trans ?_ (by assumption)))), Nat.lt_of_lt_of_le hRl ((by (repeat (first | with_reducible assumption | with_reducible exact Kp.refl _ | with_reducible refine Kp.drew ?_ | with_reducible refine Kp.drewN ?_ _ | with_reducible refine Kp.alloc ?_ _ | ((with_reducible refine Kp.setCell ?_ ?_ _); rotate_left; (focus (first | omega | (simp; done) | (simp; omega)))) | with_reducible refine Kp.trans ?_ (by assumption)))) : Kp w1 _).size, rfl⟩
set_option maxRecDepth 100000 in
set_option maxHeartbeats 8000000 in
theorem takeS_note (W : World) (R : Nat) (j : JobD) (next : Nat) (s : List UInt8) (ns : List Int) (hp : parseP s = some (kNote, ns)) (hn : ns.length % 2 = 1) (hs : s.length ≤ 10000) (w1 : World) (he : Env w1) (k1 : Kp W w1) (hWR : W.heap.size ≤ R) (h : Rdr w1 R W.heap.size j next) (hj : j.ok) (hf : j.few 100000) (hnx : next ≤ 20) :
    Calls Tryz.prog 12 #[.pointer (some ⟨R, 0, none⟩), sv s] w1 (HeadOf W R (some ({ j with items := j.items ++ [⟨5, 0, 0, 0, 0, 0, (j.notes.length : Int)⟩], notes := j.notes ++ [⟨evens ns, odds ns⟩] }, 20)) w1) := by
  have CPA := Lib.hid (parseS_any s hs w1 he)
  have HR := Lib.hid h
  have hRl := h.lt
  clear he h
  go_enter Tryz.func12, Tryz.ntmps12
  go_wp2_with fail
  refine CPA.out.mono ?_
  rintro e w2 ⟨k2, ⟨wd', ns', a, c, hp2, rfl, hrow, hnl⟩ | ⟨hp2, rfl⟩⟩
  rotate_left
  · rw [hp] at hp2; cases hp2
  rw [hp] at hp2
  simp only [Option.some.injEq, Prod.mk.injEq] at hp2
  obtain ⟨rfl, rfl⟩ := hp2
  have HROW := Lib.hid hrow
  clear CPA hrow
  go_wp2_with fail
  refine (verbs_any _).mono ?_
  rintro e w3 ⟨r, rfl, hm, hrw, k3⟩
  have kw3 : Kp w1 w3 := k2.trans (((by (repeat (first | with_reducible assumption | with_reducible exact Kp.refl _ | with_reducible refine Kp.drew ?_ | with_reducible refine Kp.drewN ?_ _ | with_reducible refine Kp.alloc ?_ _ | ((with_reducible refine Kp.setCell ?_ ?_ _); rotate_left; (focus (first | omega | (simp; done) | (simp; omega)))) | with_reducible refine Kp.trans ?_ (by assumption)))) : Kp w2 _).trans k3)
  have kw23 : Kp w2 w3 := ((by (repeat (first | with_reducible assumption | with_reducible exact Kp.refl _ | with_reducible refine Kp.drew ?_ | with_reducible refine Kp.drewN ?_ _ | with_reducible refine Kp.alloc ?_ _ | ((with_reducible refine Kp.setCell ?_ ?_ _); rotate_left; (focus (first | omega | (simp; done) | (simp; omega)))) | with_reducible refine Kp.trans ?_ (by assumption)))) : Kp w2 _).trans k3
  have LK := run_yes (s := ⟨(kNote).toArray⟩) (i := 4) (v := verbV (-1) 63) hm (by kernel_rfl)
  unfold verbV at LK
  clear hp
  have j1 : ((ns.length : Int).tmod 2 == 0) = false := beq_eq_false_iff_ne.2 (by rw [Int.tmod_eq_emod_of_nonneg (by omega)]; omega)
  go_wp2_with fail
  refine (gauges_any _).mono ?_
  rintro e w5 ⟨b, rfl, hG, hbw, k5⟩
  have kw5 : Kp w1 w5 := (kw3.alloc (.cells #[.int .i64 (-1), .func (Fn.func 63) #[] #[]] 79)).trans k5
  have kw25 : Kp w2 w5 := (kw23.alloc (.cells #[.int .i64 (-1), .func (Fn.func 63) #[] #[]] 79)).trans k5
  have bv : Blk w5 w3.heap.size [.int .i64 (-1), .func (Fn.func 63) #[] #[]] 79 := (Blk.new w3 [.int .i64 (-1), .func (Fn.func 63) #[] #[]] 79).kp k5
  have v1 := bv.cell 1 rfl
  have v0 := bv.cell 0 rfl
  obtain ⟨iv, nv, fv, hB, hJ⟩ := HR.out.kp kw5
  have d22 := hB.cell 22 (rdr_hi hj.len 4)
  have f22 := hB.free 22
  have hRl5 := hB.lt
  have hR3 : R < w3.heap.size := Nat.lt_of_lt_of_le hRl kw3.size
  have hne : R ≠ w3.heap.size := by omega
  have hne2 : w3.heap.size ≠ R := by omega
  have zB := hB.set 22 (.int .i64 20)
  rw [rdr_22 hj.len] at zB
  have zJ := hJ.move (TypedJ.away hB notJt_rdr 22 (.int .i64 20))
  have HRX : Hid (Rdr (w5.setCell ⟨R, 22, none⟩ (.int .i64 20)) R W.heap.size j 20) := Lib.hid ⟨_, _, _, zB, zJ⟩
  have HrX := Lib.hid (row_away (HROW.out.kp kw25) hB (by decide) 22 (.int .i64 20))
  have HkX := Lib.hid (Kp.setCell (k1.trans kw5) hWR (.int .i64 20) : Kp W (w5.setCell ⟨R, 22, none⟩ (.int .i64 20)))
  have HKX := Lib.hid (((KeepJ.refl R k1).kp kw5).set hWR 22 (.int .i64 20))
  have vl := bv.lt
  clear zB zJ hB hJ bv HROW hm
  go_wp2_with fail
  have hRX := HRX.out
  have hrX := HrX.out
  have kX := HkX.out
  refine (verb_note W R j 20 w1.heap.size a c ns _ kX hWR hRX hj.len (by have := hf.1; omega) (by have := hf.2.1; omega) (by omega) hnl hrX).mono ?_
  rintro e w6 ⟨rfl, hR6, hK6⟩
  have hl6 := hR6.lt
  have HR6 := Lib.hid hR6
  have hKK := HKX.out.trans hK6
  clear hR6 hRX hrX kX
  go_wp2_with fail
  (try go_ret)
  exact ⟨hKK, hl6, rfl, HR6.out⟩
end Go.Proofs.YtaekeogaakogbaaGreatDoor
