/- Marks: types, plain laws, the walks of In. -/
import Derived.Test.YtkgfnkfgmnijbaaDoorRow

import Derived.Test.YtkgfnkfgmnijbaaDoorItem

import Derived.Test.YtkgfnkfgmnijbaaDoorHeld

import Derived.Deep.QuietTactic

import Derived.BigQuiet

namespace Go.Proofs.YtkgfnkfgmnijbaaDoor

open Go.ChangeShapes Go.WideShapes Go.ChangeAt Go.RowKit

/-- A column; of its notes and floats the headers alone. -/
structure Col where
  k : Int
  fr : Int
  til : Int
  na : Option Addr
  nl : Nat
  nc : Nat
  ta : Option Addr
  tl : Nat
  tc : Nat
  ba : Option Addr
  bl : Nat
  bc : Nat
def Col.cells (x : Col) : List Value := [.int .i64 x.k, .int .i64 x.fr, .int .i64 x.til, .slice x.na x.nl x.nc, .slice x.ta x.tl x.tc, .slice x.ba x.bl x.bc]
def Col.ok (x : Col) : Prop := I64 x.k ∧ I64 x.fr ∧ I64 x.til
theorem Col.of_cells {cs : List Value} (h : Open.allOk [.int .i64, .int .i64, .int .i64, .slice, .slice, .slice] cs) : ∃ x : Col, cs = x.cells ∧ x.ok := by
  obtain _ | ⟨c0, cs⟩ := cs; · exact absurd h id
  obtain _ | ⟨c1, cs⟩ := cs; · exact absurd h.2 id
  obtain _ | ⟨c2, cs⟩ := cs; · exact absurd h.2.2 id
  obtain _ | ⟨c3, cs⟩ := cs; · exact absurd h.2.2.2 id
  obtain _ | ⟨c4, cs⟩ := cs; · exact absurd h.2.2.2.2 id
  obtain _ | ⟨c5, cs⟩ := cs; · exact absurd h.2.2.2.2.2 id
  obtain _ | ⟨c6, cs⟩ := cs; rotate_left; · exact absurd h.2.2.2.2.2.2 id
  obtain ⟨⟨x0, rfl, w0⟩, ⟨x1, rfl, w1⟩, ⟨x2, rfl, w2⟩, ⟨a3, l3, c3, rfl⟩, ⟨a4, l4, c4, rfl⟩, ⟨a5, l5, c5, rfl⟩, _⟩ := h
  exact ⟨⟨x0, x1, x2, a3, l3, c3, a4, l4, c4, a5, l5, c5⟩, rfl, Open.i64_of w0, Open.i64_of w1, Open.i64_of w2⟩
theorem Open.flat_col : Open.flatK Tryd.prog 4 57 = some [.int .i64, .int .i64, .int .i64, .slice, .slice, .slice] := by kernel_rfl
set_option maxRecDepth 100000 in
theorem Open.open_cols {H : Type} {enc : TypeId × Value → H} {w : World} {r : Reach} {b0 : Nat} {v : Value} {d : DataW H} {p : List MemPlace}
    (hv : Value.okWide Tryd.prog w r b0 41 v) (h : DataW.Trod enc Tryd.prog w 0 (fun _ => true) true 41 v d p) : ∃ x : SlV Col, v = x.v ∧ (SlOk w 6 Col.cells x.a x.len x.cap x.l ∧ ∀ y, y ∈ x.l → Col.ok y) := by
  have hc : Tryd.prog.cellsOf 57 = 6 := by kernel_rfl
  obtain ⟨a, len, cap, l, hv', hs, ho⟩ := Open.open_sl 4 Tryd.underlying41 hc (by decide) Open.flat_col (ok := Col.ok) (fun cs hcs => Col.of_cells hcs) hv h
  exact ⟨⟨a, len, cap, l⟩, hv', hs, ho⟩

/-- A number as a cell. -/
def enc1 (x : Int) : List Value := [.int .i64 x]
theorem infoInt : (Tryd.prog.info? 3).map (fun i => (i.zero, i.size, i.bytes)) = some (some (.int .i64 0), 1, 8) := by kernel_rfl
/-- The marks of items. -/
def marks (l : List Item) : List Int := (l.filter fun x => x.k == 4).map (·.n)
theorem marks_snoc (l : List Item) (x : Item) : marks (l ++ [x]) = if x.k = 4 then marks l ++ [x.n] else marks l := by
  unfold marks
  rw [List.filter_append, List.map_append]
  by_cases h : x.k = 4
  · rw [if_pos h]; simp [h]
  · rw [if_neg h]; simp [h]
theorem marks_length (l : List Item) : (marks l).length ≤ l.length := by
  unfold marks; rw [List.length_map]; exact List.length_filter_le _ _
def inL (l : List Item) (a b : Int) : List Int := marks ((l.take b.toNat).drop a.toNat)
theorem inL_length (l : List Item) (a b : Int) : (inL l a b).length ≤ l.length := by
  refine Nat.le_trans (marks_length _) ?_
  rw [List.length_drop, List.length_take]; omega
/-- The piece from a to b of the first i. -/
def pc {α : Type} (l : List α) (a b : Int) (i : Nat) : List α := (l.take (min i b.toNat)).drop a.toNat
theorem pc_zero {α : Type} (l : List α) (a b : Int) : pc l a b 0 = [] := by unfold pc; simp
theorem pc_in {α : Type} {l : List α} {a b : Int} {i : Nat} {x : α} (ha : a ≤ i) (hb : (i : Int) < b) (hx : l[i]? = some x) : pc l a b (i + 1) = pc l a b i ++ [x] := by
  unfold pc
  have hi := (List.getElem?_eq_some_iff.1 hx).1
  rw [Nat.min_eq_left (by omega), Nat.min_eq_left (by omega), List.take_add_one, hx, List.drop_append, List.length_take, Nat.min_eq_left (by omega)]
  rw [show a.toNat - i = 0 by omega]; rfl
theorem pc_out {α : Type} {l : List α} {a b : Int} {i : Nat} (h : ¬ (a ≤ i ∧ (i : Int) < b)) : pc l a b (i + 1) = pc l a b i := by
  unfold pc
  by_cases hb : (i : Int) < b
  · have ha : i < a.toNat := by omega
    rw [List.drop_eq_nil_of_le (by rw [List.length_take]; omega), List.drop_eq_nil_of_le (by rw [List.length_take]; omega)]
  · rw [Nat.min_eq_right (by omega), Nat.min_eq_right (by omega)]
theorem pc_all {α : Type} (l : List α) (a b : Int) : pc l a b l.length = (l.take b.toNat).drop a.toNat := by
  unfold pc
  congr 1
  rw [List.take_eq_take_iff]
  omega
theorem pc_short {α : Type} {l : List α} {a b : Int} {i : Nat} : (pc l a b i).length ≤ i := by unfold pc; rw [List.length_drop, List.length_take]; omega

set_option maxRecDepth 100000 in
set_option maxHeartbeats 2000000 in
theorem in_any (a : Option Addr) (cap : Nat) (l : List Item) (x y : Int) (w : World) (hl : SlOk w 7 Item.cells a l.length cap l) (h4 : l.length ≤ 4096) :
    Calls Tryd.prog 38 #[.slice a l.length cap, .int .i64 x, .int .i64 y] w fun e w' => ∃ v, e = .returned v ∧ Row w' w.heap.size 3 1 enc1 v (inL l x y) ∧ Kp w w' := by
  obtain ⟨i, hi⟩ := Int.eq_ofNat_of_zero_le (show 0 ≤ max x 0 by omega)
  have hix : x.toNat = i := by omega
  unfold inL
  rw [hix]
  have HI := Lib.hid hi
  have hcap := hl.2.1
  have hmx := hl.2.2.1
  unfold maxLen at hmx
  clear hi hix
  have hcs : (x < 0 ∧ y ≤ (l.length : Int)) ∨ (x < 0 ∧ (l.length : Int) < y) ∨ (0 ≤ x ∧ y ≤ (l.length : Int)) ∨ (0 ≤ x ∧ (l.length : Int) < y) := by omega
  rcases hcs with ⟨hx, hyl⟩ | ⟨hx, hyl⟩ | ⟨hx, hyl⟩ | ⟨hx, hyl⟩
  all_goals
    go_enter Tryd.func38, Tryd.ntmps38
    go_wp2
    go_loopw [7, 8] (fun v7 v8 wr => ∃ (k : Nat), v8 = .int .i64 k ∧ i ≤ k ∧ (k = i ∨ (k : Int) ≤ min y (l.length : Int)) ∧ Row wr w.heap.size 3 1 enc1 v7 (marks ((l.take k).drop i)) ∧ Kp w wr) (fun _ v8 _ => l.length - (intOf v8).toNat)
    case atStart => exact ⟨i, by have h := HI.out; first | rw [show (i : Int) = 0 by omega] | rw [show (i : Int) = x by omega], Nat.le_refl _, .inl rfl, by rw [List.drop_eq_nil_of_le (by rw [List.length_take]; omega)]; exact Row.nil _ _ _ _ _, (by (repeat (first | with_reducible assumption | with_reducible exact Kp.refl _ | with_reducible refine Kp.drew ?_ | with_reducible refine Kp.drewN ?_ _ | with_reducible refine Kp.alloc ?_ _ | ((with_reducible refine Kp.setCell ?_ ?_ _); rotate_left; (focus (first | omega | (simp; done) | (simp; omega)))) | with_reducible refine Kp.trans ?_ (by assumption))))⟩
    case round =>
      obtain ⟨k, rfl, hik, hor, xr, xk⟩ := hrel
      by_cases hlt : (k : Int) < min y (l.length : Int)
      · have hkl : k < l.length := by omega
        have j1 : decide ((k : Int) < y) = true := decide_eq_true (by omega)
        have j0 : decide ((k : Int) < (l.length : Int)) = true := decide_eq_true (by omega)
        obtain ⟨y', hy⟩ : ∃ y, l[k]? = some y := ⟨l[k]'hkl, List.getElem?_eq_getElem _⟩
        have hlk := hl.kp xk
        have htk : (l.take (k + 1)).drop i = (l.take k).drop i ++ [y'] := by
          rw [List.take_add_one, hy, List.drop_append, List.length_take, Nat.min_eq_left (by omega), show i - k = 0 by omega]; rfl
        have hms := marks_snoc ((l.take k).drop i) y'
        rw [← htk] at hms
        have hml := marks_length ((l.take k).drop i)
        rw [List.length_drop, List.length_take] at hml
        have hml2 : (marks ((l.take k).drop i)).length + 1 ≤ 5000 := by omega
        have HML := Lib.hid hml2
        have HOR : Hid (((k + 1 : Nat) : Int) ≤ min y (l.length : Int)) := Lib.hid (by omega)
        obtain ⟨x0, x1, x2, x3, x4, x5, x6⟩ := y'
        rcases hlk.2.2.2 with e | ⟨b, off, rfl, hb, hrow⟩
        · rw [e] at hy; simp at hy
        · have hc : ∀ c v, (Item.cells ⟨x0, x1, x2, x3, x4, x5, x6⟩)[c]? = some v → wr.cell? ⟨b, off + k * 7 + c, none⟩ = some v := fun c v hv => hrow k _ hy c v hv
          have c0 := hc 0 _ rfl; have c6 := hc 6 _ rfl
          rw [Nat.add_zero] at c0
          simp only at c0 c6 hms
          have HMS := Lib.hid hms
          clear hc hrow hy hlk htk hms hml hml2 hor hlt
          by_cases h4 : x0 = 4
          · subst h4
            have hms := HMS.out
            rw [if_pos rfl] at hms
            have HM2 := Lib.hid hms
            clear hms HMS
            go_wp2_with (first
              | (refine rowAppend ?gd (.tmp 25) (.tmp 31) 23 ?ho Tryd.underlying23 infoInt rfl (by decide) (xr.alloc (.cells #[.int .i64 x6] 3)) ?hs (y := x6) rfl ?h1 (Blk.new _ _ 3) ?hx ?hl ?hb ?hz ?_; (case gd => rfl); (case ho => rfl); (case hs => rfl); (case h1 => simp [enc1, Value.oneCell']); (case hx => rfl); (case hl => have := HML.out; unfold maxLen; omega); (case hb => have := HML.out; omega); (case hz => exact (xk.alloc _).size))
              | fail)
            intro v' w4 hr4 kp4 oth4 sz4 hne
            have k4 := kp4 (Nat.le_refl _) (xk.alloc _)
            rw [← HM2.out] at hr4
            go_wp2
            go_roundw
            case rel => exact ⟨k + 1, by go_num, by omega, .inr HOR.out, hr4, k4⟩
            case measure => simp [intOf]; omega
          · have hms := HMS.out
            rw [if_neg h4] at hms
            have HM2 := Lib.hid hms
            have j2 : (x0 == 4) = false := beq_eq_false_iff_ne.2 h4
            clear hms HMS h4
            go_wp2
            go_roundw
            case rel => exact ⟨k + 1, by go_num, by omega, .inr HOR.out, by rw [HM2.out]; exact xr, xk⟩
            case measure => simp [intOf]; omega
      · first
          | have j1 : decide ((k : Int) < y) = false := decide_eq_false (by omega)
          | have j1 : decide (k < l.length) = false := decide_eq_false (by omega)
        have he : (l.take y.toNat).drop i = (l.take k).drop i := by
          rcases hor with rfl | hor
          · rw [List.drop_eq_nil_of_le (by rw [List.length_take]; omega), List.drop_eq_nil_of_le (by rw [List.length_take]; omega)]
          · congr 1
            rw [List.take_eq_take_iff]
            omega
        have HE := Lib.hid he
        clear he hor hlt
        go_wp2
        (try go_ret)
        exact ⟨_, rfl, by rw [HE.out]; exact xr, xk⟩
set_option maxRecDepth 100000 in
set_option maxHeartbeats 2000000 in
theorem refIn_any (a : Option Addr) (cap : Nat) (l : List Item) (x y : Int) (w : World) (hl : SlOk w 7 Item.cells a l.length cap l) (h4 : l.length ≤ 4096) :
    Calls Tryd.prog 33 #[.slice a l.length cap, .int .i64 x, .int .i64 y] w fun e w' => ∃ v, e = .returned v ∧ Row w' w.heap.size 3 1 enc1 v (inL l x y) ∧ Kp w w' := by
  have hcap := hl.2.1
  have hmx := hl.2.2.1
  unfold maxLen at hmx
  go_enter Tryd.func33, Tryd.ntmps33
  go_wp2
  go_loopw [7, 8] (fun v7 v8 wr => ∃ (k : Nat), k ≤ l.length ∧ v8 = .int .i64 k ∧ Row wr w.heap.size 3 1 enc1 v7 (marks (pc l x y k)) ∧ Kp w wr) (fun _ v8 _ => l.length - (intOf v8).toNat)
  case atStart => exact ⟨0, Nat.zero_le _, rfl, by rw [pc_zero]; exact Row.nil _ _ _ _ _, (by (repeat (first | with_reducible assumption | with_reducible exact Kp.refl _ | with_reducible refine Kp.drew ?_ | with_reducible refine Kp.drewN ?_ _ | with_reducible refine Kp.alloc ?_ _ | ((with_reducible refine Kp.setCell ?_ ?_ _); rotate_left; (focus (first | omega | (simp; done) | (simp; omega)))) | with_reducible refine Kp.trans ?_ (by assumption))))⟩
  case round =>
    obtain ⟨k, hk, rfl, xr, xk⟩ := hrel
    by_cases hlt : k < l.length
    · obtain ⟨y', hy⟩ : ∃ y, l[k]? = some y := ⟨l[k]'hlt, List.getElem?_eq_getElem _⟩
      have hlk := hl.kp xk
      have hml := marks_length (pc l x y k)
      have hml2 : (marks (pc l x y k)).length + 1 ≤ 5000 := by have := pc_short (l := l) (a := x) (b := y) (i := k); omega
      have HML := Lib.hid hml2
      by_cases hin : x ≤ k ∧ (k : Int) < y
      · have hpc := pc_in hin.1 hin.2 hy
        have hms := marks_snoc (pc l x y k) y'
        rw [← hpc] at hms
        obtain ⟨x0, x1, x2, x3, x4, x5, x6⟩ := y'
        rcases hlk.2.2.2 with e | ⟨b, off, rfl, hb, hrow⟩
        · rw [e] at hy; simp at hy
        · have hc : ∀ c v, (Item.cells ⟨x0, x1, x2, x3, x4, x5, x6⟩)[c]? = some v → wr.cell? ⟨b, off + k * 7 + c, none⟩ = some v := fun c v hv => hrow k _ hy c v hv
          have c0 := hc 0 _ rfl; have c6 := hc 6 _ rfl
          rw [Nat.add_zero] at c0
          simp only at c0 c6 hms
          have HMS := Lib.hid hms
          have j1 : decide (x ≤ (k : Int)) = true := decide_eq_true hin.1
          have j2 : decide ((k : Int) < y) = true := decide_eq_true hin.2
          clear hc hrow hy hlk hms hml hml2 hpc hin
          by_cases h4 : x0 = 4
          · subst h4
            have hms := HMS.out
            rw [if_pos rfl] at hms
            have HM2 := Lib.hid hms
            clear hms HMS
            go_wp2_with (first
              | (refine rowAppend ?gd (.tmp 31) (.tmp 37) 23 ?ho Tryd.underlying23 infoInt rfl (by decide) (xr.alloc (.cells #[.int .i64 x6] 3)) ?hs (y := x6) rfl ?h1 (Blk.new _ _ 3) ?hx ?hl ?hb ?hz ?_; (case gd => rfl); (case ho => rfl); (case hs => rfl); (case h1 => simp [enc1, Value.oneCell']); (case hx => rfl); (case hl => have := HML.out; unfold maxLen; omega); (case hb => have := HML.out; omega); (case hz => exact (xk.alloc _).size))
              | fail)
            intro v' w4 hr4 kp4 oth4 sz4 hne
            have k4 := kp4 (Nat.le_refl _) (xk.alloc _)
            rw [← HM2.out] at hr4
            go_wp2
            go_roundw
            case rel => exact ⟨k + 1, by omega, by go_num, hr4, k4⟩
            case measure => simp [intOf]; omega
          · have hms := HMS.out
            rw [if_neg h4] at hms
            have HM2 := Lib.hid hms
            have j3 : (x0 == 4) = false := beq_eq_false_iff_ne.2 h4
            clear hms HMS h4
            go_wp2
            go_roundw
            case rel => exact ⟨k + 1, by omega, by go_num, by rw [HM2.out]; exact xr, xk⟩
            case measure => simp [intOf]; omega
      · have hpc := pc_out (l := l) hin
        have HPC := Lib.hid hpc
        by_cases h1 : x ≤ k
        · have j1 : decide (x ≤ (k : Int)) = true := decide_eq_true h1
          have j2 : decide ((k : Int) < y) = false := decide_eq_false (fun h => hin ⟨h1, h⟩)
          clear hpc hin hy hlk hml hml2
          go_wp2
          go_roundw
          case rel => exact ⟨k + 1, by omega, by go_num, by rw [HPC.out]; exact xr, xk⟩
          case measure => simp [intOf]; omega
        · have j1 : decide (x ≤ (k : Int)) = false := decide_eq_false h1
          clear hpc hin hy hlk hml hml2
          go_wp2
          go_roundw
          case rel => exact ⟨k + 1, by omega, by go_num, by rw [HPC.out]; exact xr, xk⟩
          case measure => simp [intOf]; omega
    · obtain rfl : k = l.length := by omega
      have j1 : decide ((l.length : Int) < (l.length : Int)) = false := decide_eq_false (by omega)
      have he : marks (pc l x y l.length) = inL l x y := by rw [pc_all]; rfl
      have HE := Lib.hid he
      clear he
      go_wp2
      go_ret
      exact ⟨_, rfl, by rw [← HE.out]; exact xr, xk⟩
set_option maxHeartbeats 1000000 in
theorem ints_yes (a1 a2 : Option Addr) (c1 c2 : Nat) (L : List Int) (w : World) (h1 : SlOk w 1 enc1 a1 L.length c1 L) (h2 : SlOk w 1 enc1 a2 L.length c2 L) :
    Calls Tryd.prog 15 #[.slice a1 L.length c1, .slice a2 L.length c2] w fun e w' => e = .returned (.bool true) ∧ Kp w w' := by
  have hc1 := h1.2.1
  have hm1 := h1.2.2.1
  have hc2 := h2.2.1
  have hm2 := h2.2.2.1
  unfold maxLen at hm1 hm2
  have H1 := Lib.hid h1
  have H2 := Lib.hid h2
  clear h1 h2
  go_enter Tryd.func15, Tryd.ntmps15
  go_wp2
  go_loopw [5] (fun v5 wr => ∃ k : Nat, k ≤ L.length ∧ v5 = .int .i64 k ∧ Kp w wr) (fun v5 _ => L.length - (intOf v5).toNat)
  case atStart => exact ⟨0, Nat.zero_le _, rfl, (by (repeat (first | with_reducible assumption | with_reducible exact Kp.refl _ | with_reducible refine Kp.drew ?_ | with_reducible refine Kp.drewN ?_ _ | with_reducible refine Kp.alloc ?_ _ | ((with_reducible refine Kp.setCell ?_ ?_ _); rotate_left; (focus (first | omega | (simp; done) | (simp; omega)))) | with_reducible refine Kp.trans ?_ (by assumption))))⟩
  case round =>
    obtain ⟨k, hk, rfl, xk⟩ := hrel
    by_cases hlt : k < L.length
    · obtain ⟨x, hx⟩ : ∃ x, L[k]? = some x := ⟨L[k], List.getElem?_eq_getElem hlt⟩
      have g1' := H1.out.kp xk
      have g2' := H2.out.kp xk
      rcases g1'.2.2.2 with e | ⟨b, off, rfl, hb, hrow⟩
      · rw [e] at hx; simp at hx
      · rcases g2'.2.2.2 with e | ⟨b', off', rfl, hb', hrow'⟩
        · rw [e] at hx; simp at hx
        · have c0 := hrow k _ hx 0 _ rfl
          have d0 := hrow' k _ hx 0 _ rfl
          rw [Nat.add_zero, Nat.mul_one] at c0 d0
          clear hrow hrow' hx g1' g2'
          go_wp2
          go_quiet (fail)
          go_wp2
          go_roundw
          case rel => exact ⟨k + 1, by omega, by go_num, (by (repeat (first | with_reducible assumption | with_reducible exact Kp.refl _ | with_reducible refine Kp.drew ?_ | with_reducible refine Kp.drewN ?_ _ | with_reducible refine Kp.alloc ?_ _ | ((with_reducible refine Kp.setCell ?_ ?_ _); rotate_left; (focus (first | omega | (simp; done) | (simp; omega)))) | with_reducible refine Kp.trans ?_ (by assumption))))⟩
          case measure => simp [intOf]; omega
    · obtain rfl : k = L.length := by omega
      have j1 : decide ((L.length : Int) < (L.length : Int)) = false := decide_eq_false (by omega)
      go_wp2
      go_ret
      exact ⟨rfl, xk⟩
end Go.Proofs.YtkgfnkfgmnijbaaDoor
