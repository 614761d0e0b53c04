/- Entries that came in; the index is made at all. -/
import Derived.Test.YtkgfnkfgmnijbaaDoorLaw9P

import Derived.Test.YtkgfnkfgmnijbaaDoorRText9

import Derived.Test.YtkgfnkfgmnijbaaDoorPage

namespace Go.Proofs.YtkgfnkfgmnijbaaDoor

open Go.ChangeShapes Go.WideShapes Go.ChangeAt Go.RowKit Go.Shelf Go.Deep

theorem enc1_of {cs : List Value} (h : Open.allOk [.int .i64] cs) : ∃ x : Int, cs = enc1 x ∧ I64 x := by
  obtain _ | ⟨c, cs⟩ := cs; · exact absurd h id
  obtain _ | ⟨c', cs⟩ := cs; rotate_left; · exact absurd h.2 id
  obtain ⟨⟨x, rfl, w⟩, _⟩ := h
  exact ⟨x, rfl, Open.i64_of w⟩
theorem Open.flat_int : Open.flatK Tryd.prog 4 3 = some [.int .i64] := by kernel_rfl
structure Two where
  a : Int
  b : Int
/-- Its cells. -/
def Two.cells (x : Two) : List Value := [.int .i64 x.a, .int .i64 x.b]
/-- The value. -/
def Two.v (x : Two) : Value := .agg #[.int .i64 x.a, .int .i64 x.b]
def Two.ok (x : Two) : Prop := I64 x.a ∧ I64 x.b
theorem Two.of_cells {cs : List Value} (h : Open.allOk [.int .i64, .int .i64] cs) : ∃ x : Two, cs = x.cells ∧ x.ok := by
  obtain _ | ⟨c0, cs⟩ := cs; · exact absurd h id
  obtain _ | ⟨c1, cs⟩ := cs; · exact absurd h.2 id
  obtain _ | ⟨c, cs⟩ := cs; rotate_left; · exact absurd h.2.2 id
  obtain ⟨⟨x0, rfl, w0⟩, ⟨x1, rfl, w1⟩, _⟩ := h
  exact ⟨⟨x0, x1⟩, rfl, ⟨Open.i64_of w0, Open.i64_of w1⟩⟩
theorem Open.flat_two : Open.flatK Tryd.prog 4 42 = some [.int .i64, .int .i64] := by kernel_rfl
set_option maxRecDepth 100000 in
theorem Open.open_two {H : Type} {enc : TypeId × Value → H} {w : World} {base : Nat} {spare : Nat → Bool} {held : Bool} {r : Reach} {b0 : Nat} {v : Value} {d : DataW H} {p : List MemPlace}
    (hv : Value.okWide Tryd.prog w r b0 42 v) (h : DataW.Trod enc Tryd.prog w base spare held 42 v d p) : ∃ x : Two, v = x.v ∧ x.ok := by
  obtain ⟨cs, hc, hk⟩ := Open.open_flat 4 Open.flat_two (by rw [Tryd.underlying42]; rfl) hv h
  subst hc
  obtain ⟨x, rfl, hx⟩ := Two.of_cells hk
  exact ⟨x, rfl, hx⟩
def Open.zero_two : Value := .agg #[.int .i64 0, .int .i64 0]
set_option maxRecDepth 100000 in
theorem Open.open_ints {H : Type} {enc : TypeId × Value → H} {w : World} {r : Reach} {b0 : Nat} {v : Value} {d : DataW H} {p : List MemPlace}
    (hv : Value.okWide Tryd.prog w r b0 23 v) (h : DataW.Trod enc Tryd.prog w 0 (fun _ => true) true 23 v d p) : ∃ x : SlV Int, v = x.v ∧ (SlOk w 1 enc1 x.a x.len x.cap x.l ∧ ∀ y, y ∈ x.l → I64 y) := by
  have hc : Tryd.prog.cellsOf 3 = 1 := by kernel_rfl
  obtain ⟨a, len, cap, l, hv', hs, ho⟩ := Open.open_sl 4 Tryd.underlying23 hc (by decide) Open.flat_int (ok := I64) (fun cs hcs => enc1_of hcs) hv h
  exact ⟨⟨a, len, cap, l⟩, hv', hs, ho⟩
/-- An entry as it comes in. -/
def Ent.raw (w : World) (x : Ent) : Prop := I64 x.n ∧ SlOk w 1 enc1 x.s.a x.s.len x.s.cap x.s.l ∧ ∀ p, p ∈ x.s.l → I64 p
theorem Ent.raw.kp {w w' : World} {x : Ent} (h : x.raw w) (k : Kp w w') : x.raw w' := ⟨h.1, h.2.1.kp k, h.2.2⟩
theorem Ent.raw.good {w : World} {x : Ent} (h : x.raw w) (h1 : x.s.l.length ≤ 1000) (h2 : topsL x.s.l = false) : x.good w :=
  ⟨h.1, by have e := h.2.1.1; have := h.2.1; rw [← e] at this; exact this, h.2.1.1.symm, h1, fun p hp => ⟨h.2.2 p hp, fun e => by
    unfold topsL at h2
    have := List.any_eq_false.1 h2 p hp
    simp [e] at this⟩⟩
theorem Ent.of_cells {w : World} {cs : List Value} (h : dOk w [.int .i64, .sl 1 [.int .i64]] cs) : ∃ x : Ent, cs = x.cells ∧ x.raw w := by
  obtain ⟨x, c1, rfl, w1, h⟩ := dOk_int h
  obtain ⟨v, c2, rfl, h1, h⟩ := dOk_sl h
  obtain rfl := dOk_nil h
  obtain ⟨a, len, cap, l, rfl, hs, hq⟩ := sl_of_dOk (f := enc1) (Q := I64) (fun cs h => by
    obtain ⟨x, c1, rfl, w1, h⟩ := dOk_int h
    obtain rfl := dOk_nil h
    exact ⟨x, rfl, Open.i64_of w1⟩) h1
  exact ⟨⟨x, ⟨a, len, cap, l⟩⟩, rfl, Open.i64_of w1, hs, hq⟩
theorem Open.deep_ents : Open.deepK Tryd.prog 8 22 = some [.sl 2 [.int .i64, .sl 1 [.int .i64]]] := by kernel_rfl
set_option maxRecDepth 100000 in
theorem Open.open_ents {H : Type} {enc : TypeId × Value → H} {w : World} {r : Reach} {b0 : Nat} {v : Value} {d : DataW H} {p : List MemPlace}
    (hv : Value.okWide Tryd.prog w r b0 22 v) (h : DataW.Trod enc Tryd.prog w 0 (fun _ => true) true 22 v d p) :
    ∃ x : SlV Ent, v = x.v ∧ (SlOk w 2 Ent.cells x.a x.len x.cap x.l ∧ ∀ y, y ∈ x.l → y.raw w) := by
  have hd := Open.open_deep 8 Tryd.underlying22 Open.deep_ents hv h
  obtain ⟨v', vs, e, h1, h2⟩ := dOk_sl hd
  cases e
  obtain ⟨a, len, cap, l, rfl, hs, hq⟩ := sl_of_dOk (fun cs h => Ent.of_cells h) h1
  exact ⟨⟨a, len, cap, l⟩, rfl, hs, hq⟩
/-- What is always shown. -/
def awI9 : List Item := [⟨4, 0, 0, 0, 0, 0, 7⟩, ⟨1, 0, 0, 0, 0, 0, 0⟩, ⟨4, 0, 0, 0, 0, 0, 7⟩, ⟨4, 0, 0, 0, 0, 0, 3⟩, ⟨1, 0, 0, 0, 0, 0, 0⟩]
def awC9 : List Col := [⟨1, 0, 2, none, 0, 0, none, 0, 0, none, 0, 0⟩, ⟨1, 2, 5, none, 0, 0, none, 0, 0, none, 0, 0⟩]
def awX9 : List Ent := [⟨3, ⟨none, 1, 1, [1]⟩⟩, ⟨7, ⟨none, 2, 2, [0, 1]⟩⟩]
theorem aw_page9 : pageL awI9 awC9 = [7, 7, 3] := by kernel_rfl
theorem aw_index9 : IsIndex (grpF (pagesL awI9 awC9 1)) awX9 := by
  refine ⟨by decide, fun n _ hf => ?_, fun x hx => ?_⟩
  · rw [grpF_ne, ← page_all awI9 awC9 1 (by decide), aw_page9] at hf
    simp only [List.mem_cons, List.not_mem_nil, or_false] at hf
    rcases hf with rfl | rfl | rfl
    · exact ⟨_, List.mem_cons_of_mem _ List.mem_cons_self, rfl⟩
    · exact ⟨_, List.mem_cons_of_mem _ List.mem_cons_self, rfl⟩
    · exact ⟨_, List.mem_cons_self, rfl⟩
  · simp only [awX9, List.mem_cons, List.not_mem_nil, or_false] at hx
    have e3 : grpF (pagesL awI9 awC9 1) 3 = [1] := by kernel_rfl
    have e7 : grpF (pagesL awI9 awC9 1) 7 = [0, 1] := by kernel_rfl
    rcases hx with rfl | rfl
    · exact ⟨by unfold I64; decide, by simp [e3], e3.symm⟩
    · exact ⟨by unfold I64; decide, by simp [e7], e7.symm⟩
theorem dig9 {u : Nat} (h : u < 10) : Lib.itoa (u : Int) = [UInt8.ofNat (48 + u)] := by
  unfold Lib.itoa
  rw [if_neg (by omega), Int.toNat_natCast, Lib.decDigits, dif_pos h]
theorem ia0 : Lib.itoa 0 = [48] := dig9 (u := 0) (by decide)
theorem ia1 : Lib.itoa 1 = [49] := dig9 (u := 1) (by decide)
theorem ia3 : Lib.itoa 3 = [51] := dig9 (u := 3) (by decide)
theorem ia7 : Lib.itoa 7 = [55] := dig9 (u := 7) (by decide)
theorem aw_runs1 : runsL [1] = [⟨1, 1⟩] := by kernel_rfl
theorem aw_runs2 : runsL [0, 1] = [⟨0, 1⟩] := by kernel_rfl
theorem aw_text9 : textL awX9 = [51, 58, 32, 49, 10, 55, 58, 32, 48, 45, 49, 10] := by
  simp [textL, awX9, entT, aw_runs1, aw_runs2, runN, runT, ia0, ia1, ia3, ia7]
theorem cellsI_length (x : Item) : x.cells.length = 7 := rfl
theorem cellsC_length (x : Col) : x.cells.length = 6 := rfl
theorem SlOk.ofRow {α : Type} {n : Nat} {enc : α → List Value} {w : World} {b : Nat} {l : List α} {t : TypeId} (hn : ∀ x, (enc x).length = n) (h : Blk w b (l.flatMap enc) t) (hm : l.length ≤ maxLen) : SlOk w n enc (some ⟨b, 0, none⟩) l.length l.length l :=
  ⟨rfl, Nat.le_refl _, hm, .inr ⟨b, 0, rfl, h.lt, fun i x hx j v hv => by rw [Nat.zero_add]; exact h.cell (i * n + j) (flatMap_get hn l i x j v hx hv)⟩⟩
theorem aw_two {L : List Ent} (h : IsIndex (grpF (pagesL awI9 awC9 1)) L) : ∃ s t : SlV Int, L = [⟨3, s⟩, ⟨7, t⟩] ∧ s.l = [1] ∧ t.l = [0, 1] ∧ textL L = [51, 58, 32, 49, 10, 55, 58, 32, 48, 45, 49, 10] := by
  have hu := IsIndex.unique h aw_index9
  have hk := keys_eq hu.1 hu.2
  obtain _ | ⟨⟨xn, xs⟩, L⟩ := L; · cases hu.1
  obtain _ | ⟨⟨yn, ys⟩, L⟩ := L; · cases hu.1
  obtain _ | ⟨z, L⟩ := L; rotate_left; · exact absurd hu.1 (by simp [awX9])
  obtain ⟨e1, e2⟩ := hu.2 0 _ _ rfl rfl
  obtain ⟨e3, e4⟩ := hu.2 1 _ _ rfl rfl
  simp only at e1 e2 e3 e4
  subst e1 e3
  exact ⟨xs, ys, rfl, e2, e4, by rw [textL_keys, hk, ← textL_keys, aw_text9]⟩
theorem aw_i64 : ∀ x, x ∈ awI9 → I64 x.n := by unfold I64; decide
set_option maxRecDepth 100000 in
set_option maxHeartbeats 4000000 in
theorem awake9_any (w : World) (he : Env w) : Calls Tryd.prog 6 #[] w fun e w' => e = .returned (.bool true) ∧ Kp w w' := by
  have HE := Lib.hid he
  have CO := Lib.hid (fun (W : World) h1 h2 => indexOf_yes (some ⟨w.heap.size, 0, none⟩) (some ⟨w.heap.size + 1, 0, none⟩) 5 2 awI9 awC9 1 W h1 h2 (by decide) (by decide) aw_i64 (by decide) (by decide))
  clear he
  go_enter Tryd.func6, Tryd.ntmps6
  go_wp2_with fail
  refine Calls.mono (CO.out _ ?s1 ?s2) ?_
  case s1 => exact SlOk.ofRow cellsI_length (Blk.alloc (Blk.newL (t := 54) rfl rfl) _) (by decide)
  case s2 => exact SlOk.ofRow cellsC_length (Blk.newL (t := 57) (by simp) rfl) (by decide)
  rintro e w1 ⟨ra, rc, L, rfl, hs, hg, hi, k1⟩
  have xk : Kp w w1 := ((by (repeat (first | with_reducible assumption | with_reducible exact Kp.refl _ | with_reducible refine Kp.drew ?_ | with_reducible refine Kp.drewN ?_ _ | with_reducible refine Kp.alloc ?_ _ | ((with_reducible refine Kp.setCell ?_ ?_ _); rotate_left; (focus (first | omega | (simp; done) | (simp; omega)))) | with_reducible refine Kp.trans ?_ (by assumption)))) : Kp w _).trans k1
  obtain ⟨s, t, rfl, es, et, htx⟩ := aw_two hi
  have hgs := hg _ List.mem_cons_self
  have hgt := hg _ (List.mem_cons_of_mem _ List.mem_cons_self)
  have HT := Lib.hid (fun w' (k : Kp w1 w') => text_any ra rc _ w' (HE.out.kp (xk.trans k)) (hs.kp k) (fun y hy => (hg y hy).kp k) (by simp))
  obtain ⟨sa, sl, sc, s⟩ := s
  obtain ⟨ta, tl, tc, t⟩ := t
  obtain rfl : s = [1] := es
  obtain rfl : t = [0, 1] := et
  obtain rfl : tl = 2 := hgt.len
  have HGT := Lib.hid (show SlOk w1 1 enc1 ta 2 tc [0, 1] from hgt.s)
  rcases hs.2.2.2 with e | ⟨g, o, rfl, hgb, hrow⟩
  · cases e
  have hsc := hs.2.1
  have hsm := hs.2.2.1
  unfold maxLen at hsm
  have d0 := hrow 0 _ rfl 0 _ rfl
  have d1 := hrow 1 _ rfl 1 _ rfl
  simp only [Nat.zero_mul, Nat.one_mul, Nat.add_zero] at d0 d1
  rw [htx] at HT
  clear hrow hs hg hi k1 CO hgs hgt htx
  go_wp2_with fail
  refine (ints_yes ta (some ⟨w1.heap.size, 0, none⟩) tc 2 [0, 1] _ (HGT.out.kp (by (repeat (first | with_reducible assumption | with_reducible exact Kp.refl _ | with_reducible refine Kp.drew ?_ | with_reducible refine Kp.drewN ?_ _ | with_reducible refine Kp.alloc ?_ _ | ((with_reducible refine Kp.setCell ?_ ?_ _); rotate_left; (focus (first | omega | (simp; done) | (simp; omega)))) | with_reducible refine Kp.trans ?_ (by assumption))))) (SlOk.ofRow (enc := enc1) (t := 3) (fun _ => rfl) (by (repeat (first | with_reducible assumption | ((with_reducible refine Blk.newL ?_ ?_); (focus (first | (simp; done) | omega)); rfl) | with_reducible refine Blk.drew ?_ | with_reducible refine Blk.drewN ?_ _ | with_reducible refine Blk.alloc ?_ _ | ((with_reducible refine Blk.other ?_ ?_ _); rotate_left; (focus (first | with_reducible assumption | omega | (simp; done) | (simp; omega))))))) (by decide))).mono ?_
  rintro e w2 ⟨rfl, k2⟩
  have k2' : Kp w1 w2 := ((by (repeat (first | with_reducible assumption | with_reducible exact Kp.refl _ | with_reducible refine Kp.drew ?_ | with_reducible refine Kp.drewN ?_ _ | with_reducible refine Kp.alloc ?_ _ | ((with_reducible refine Kp.setCell ?_ ?_ _); rotate_left; (focus (first | omega | (simp; done) | (simp; omega)))) | with_reducible refine Kp.trans ?_ (by assumption)))) : Kp w1 _).trans k2
  clear k2 HGT
  go_wp2_with fail
  refine (HT.out _ k2').mono ?_
  rintro e w3 ⟨rfl, k3⟩
  have kw3 : Kp w w3 := xk.trans (k2'.trans k3)
  clear k3 k2' HT xk
  go_wp2_with fail
  (try go_ret)
  exact ⟨by first | rfl | (rw [ret_bool]; decide), kw3⟩
end Go.Proofs.YtkgfnkfgmnijbaaDoor
