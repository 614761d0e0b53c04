/- The laws of layer 44: pages as texts, and drawn. -/
import Derived.Test.YtfiejiokconobaaDoorPages

import Derived.Test.YtfiejiokconobaaDoorRpages

import Derived.Test.YtfiejiokconobaaDoorRout

import Derived.Test.YtfiejiokconobaaDoorSk4

namespace Go.Proofs.YtfiejiokconobaaDoor

open Go.RowKit

/-- The pages that are always shown. -/
def awP (B : Nat) : List Page := [⟨⟨some ⟨B + 1, 0, none⟩, 1, 1, [⟨0, ⟨some ⟨B, 0, none⟩, 2, 2, [⟨1, 2, 0, 0, 3⟩, ⟨4, 1, 0, 4, 1⟩]⟩⟩]⟩, -1, 5, 5⟩]
theorem dig_one {u : Nat} (h : u < 10) : Lib.itoa (u : Int) = [UInt8.ofNat (48 + u)] := by
  unfold Lib.itoa
  rw [if_neg (by omega), Int.toNat_natCast, Lib.decDigits, dif_pos h]
theorem dig_m1 : Lib.itoa (-1) = [45, 49] := by
  unfold Lib.itoa
  rw [if_pos (by decide)]
  show 45 :: Lib.decDigits 1 = _
  rw [Lib.decDigits, dif_pos (by decide)]; rfl
theorem i0 : Lib.itoa 0 = [48] := dig_one (u := 0) (by decide)
theorem i1 : Lib.itoa 1 = [49] := dig_one (u := 1) (by decide)
theorem i2 : Lib.itoa 2 = [50] := dig_one (u := 2) (by decide)
theorem i3 : Lib.itoa 3 = [51] := dig_one (u := 3) (by decide)
theorem i4 : Lib.itoa 4 = [52] := dig_one (u := 4) (by decide)
theorem i5 : Lib.itoa 5 = [53] := dig_one (u := 5) (by decide)
theorem aw_pages (B : Nat) : pagesN (awP B) 1 = [112, 97, 103, 101, 32, 48, 32, 45, 49, 32, 53, 32, 53, 10, 108, 97, 110, 101, 32, 48, 10, 98, 111, 120, 32, 50, 32, 48, 32, 51, 10, 108, 105, 110, 101, 32, 49, 32, 48, 32, 52, 32, 49, 10] := by
  simp [pagesN, awP, pageL, pageH, laneL, laneH, putN, putL, lineL, numL, i0, i1, i2, i3, i4, i5, dig_m1, List.range_succ]
theorem aw_outline (B : Nat) : outlineN (awP B) 1 = [48, 32, 49, 32, 48, 32, 48, 32, 49, 10] := by
  simp [outlineN, prefN, awP, outP, kinds, kindN, pagePuts, lineL, numL, i0, i1, List.range_succ]
theorem aw_sketch (B : Nat) : sketchN (min 1 4503599627370496) (awP B) 1 = [35, 10, 35, 10, 35, 10, 46, 10, 110, 10, 10] := by kernel_rfl
theorem aw_ok {w : World} {B : Nat} (b0 : Blk w B [.int .i64 1, .int .i64 2, .int .i64 0, .int .i64 0, .int .i64 3, .int .i64 4, .int .i64 1, .int .i64 0, .int .i64 4, .int .i64 1] 30)
    (b1 : Blk w (B + 1) [.int .i64 0, .slice (some ⟨B, 0, none⟩) 2 2] 41) (b2 : Blk w (B + 2) [.slice (some ⟨B + 1, 0, none⟩) 1 1, .int .i64 (-1), .int .i64 5, .int .i64 5] 39) :
    SlOk w 4 Page.cells (some ⟨B + 2, 0, none⟩) (awP B).length 1 (awP B) ∧ (∀ y, y ∈ awP B → y.good w) ∧ Small (awP B) := by
  have num : ∀ x : Int, x ∈ ([-1, 0, 1, 2, 3, 4, 5] : List Int) → I64 x := fun x h => by
    simp only [List.mem_cons, List.not_mem_nil, or_false] at h
    unfold I64; omega
  have ml : ∀ n : Nat, n ≤ 100 → n ≤ maxLen := fun n h => by unfold maxLen; omega
  refine ⟨⟨rfl, Nat.le_refl _, ml 1 (by decide), .inr ⟨_, 0, rfl, b2.lt, fun i x hx j v hv => ?_⟩⟩, fun y hy => ?_, ⟨by simp [awP], ?_, ?_⟩⟩
  · match i, hx with
    | 0, hx =>
      simp only [awP, List.getElem?_cons_zero, Option.some.injEq] at hx
      subst hx
      have := b2.cell j hv
      simpa using this
  · simp only [awP, List.mem_singleton] at hy
    subst hy
    refine ⟨num _ (by simp), num _ (by simp), num _ (by simp), ⟨rfl, Nat.le_refl _, ml 1 (by decide), .inr ⟨_, 0, rfl, b1.lt, fun i x hx j v hv => ?_⟩⟩, fun z hz => ?_⟩
    · match i, hx with
      | 0, hx =>
        simp only [List.getElem?_cons_zero, Option.some.injEq] at hx
        subst hx
        have := b1.cell j hv
        simpa using this
    · simp only [List.mem_singleton] at hz
      subst hz
      refine ⟨num _ (by simp), ⟨rfl, Nat.le_refl _, ml 2 (by decide), .inr ⟨_, 0, rfl, b0.lt, fun i x hx j v hv => ?_⟩⟩, fun p hp => ?_⟩
      · match i, hx with
        | 0, hx =>
          simp only [List.getElem?_cons_zero, Option.some.injEq] at hx
          subst hx
          match j, hv with
          | 0, hv => exact b0.cell 0 (by simpa [Put.cells] using hv)
          | 1, hv => exact b0.cell 1 (by simpa [Put.cells] using hv)
          | 2, hv => exact b0.cell 2 (by simpa [Put.cells] using hv)
          | 3, hv => exact b0.cell 3 (by simpa [Put.cells] using hv)
          | 4, hv => exact b0.cell 4 (by simpa [Put.cells] using hv)
        | 1, hx =>
          simp only [List.getElem?_cons_succ, List.getElem?_cons_zero, Option.some.injEq] at hx
          subst hx
          match j, hv with
          | 0, hv => exact b0.cell 5 (by simpa [Put.cells] using hv)
          | 1, hv => exact b0.cell 6 (by simpa [Put.cells] using hv)
          | 2, hv => exact b0.cell 7 (by simpa [Put.cells] using hv)
          | 3, hv => exact b0.cell 8 (by simpa [Put.cells] using hv)
          | 4, hv => exact b0.cell 9 (by simpa [Put.cells] using hv)
      · simp only [List.mem_cons, List.not_mem_nil, or_false] at hp
        rcases hp with rfl | rfl <;> exact ⟨num _ (by simp), num _ (by simp), num _ (by simp), num _ (by simp), num _ (by simp)⟩
  · intro p hp
    simp only [awP, List.mem_singleton] at hp
    subst hp; simp
  · intro p hp x hx
    simp only [awP, List.mem_singleton] at hp
    subst hp
    simp only [List.mem_singleton] at hx
    subst hx; simp
theorem aw_run1 {w : World} {B : Nat} (he : Env w) (b0 : Blk w B [.int .i64 1, .int .i64 2, .int .i64 0, .int .i64 0, .int .i64 3, .int .i64 4, .int .i64 1, .int .i64 0, .int .i64 4, .int .i64 1] 30)
    (b1 : Blk w (B + 1) [.int .i64 0, .slice (some ⟨B, 0, none⟩) 2 2] 41) (b2 : Blk w (B + 2) [.slice (some ⟨B + 1, 0, none⟩) 1 1, .int .i64 (-1), .int .i64 5, .int .i64 5] 39) :
    Calls Tryd.prog 8 #[.slice (some ⟨B + 2, 0, none⟩) 1 1] w fun e w' => e = .returned (sv [112, 97, 103, 101, 32, 48, 32, 45, 49, 32, 53, 32, 53, 10, 108, 97, 110, 101, 32, 48, 10, 98, 111, 120, 32, 50, 32, 48, 32, 51, 10, 108, 105, 110, 101, 32, 49, 32, 48, 32, 52, 32, 49, 10]) ∧ Kp w w' := by
  obtain ⟨h1, h2, h3⟩ := aw_ok b0 b1 b2
  have h := showPages_any _ 1 (awP B) w he h1 h2 h3
  rw [show pagesN (awP B) (awP B).length = _ from aw_pages B] at h
  exact h
theorem aw_run2 {w : World} {B : Nat} (he : Env w) (b0 : Blk w B [.int .i64 1, .int .i64 2, .int .i64 0, .int .i64 0, .int .i64 3, .int .i64 4, .int .i64 1, .int .i64 0, .int .i64 4, .int .i64 1] 30)
    (b1 : Blk w (B + 1) [.int .i64 0, .slice (some ⟨B, 0, none⟩) 2 2] 41) (b2 : Blk w (B + 2) [.slice (some ⟨B + 1, 0, none⟩) 1 1, .int .i64 (-1), .int .i64 5, .int .i64 5] 39) :
    Calls Tryd.prog 10 #[.slice (some ⟨B + 2, 0, none⟩) 1 1] w fun e w' => e = .returned (sv [48, 32, 49, 32, 48, 32, 48, 32, 49, 10]) ∧ Kp w w' := by
  obtain ⟨h1, h2, h3⟩ := aw_ok b0 b1 b2
  have h := outline_any _ 1 (awP B) w he h1 h2 h3
  rw [show outlineN (awP B) (awP B).length = _ from aw_outline B] at h
  exact h
theorem aw_run3 {w : World} {B : Nat} (he : Env w) (b0 : Blk w B [.int .i64 1, .int .i64 2, .int .i64 0, .int .i64 0, .int .i64 3, .int .i64 4, .int .i64 1, .int .i64 0, .int .i64 4, .int .i64 1] 30)
    (b1 : Blk w (B + 1) [.int .i64 0, .slice (some ⟨B, 0, none⟩) 2 2] 41) (b2 : Blk w (B + 2) [.slice (some ⟨B + 1, 0, none⟩) 1 1, .int .i64 (-1), .int .i64 5, .int .i64 5] 39) :
    Calls Tryd.prog 12 #[.slice (some ⟨B + 2, 0, none⟩) 1 1, .int .i64 1] w fun e w' => e = .returned (sv [35, 10, 35, 10, 35, 10, 46, 10, 110, 10, 10]) ∧ Kp w w' := by
  obtain ⟨h1, h2, h3⟩ := aw_ok b0 b1 b2
  have h := sketch_yes _ 1 (awP B) 1 w he h1 h2 h3 (by decide)
  rw [show sketchN (min 1 4503599627370496) (awP B) (awP B).length = _ from aw_sketch B] at h
  exact h
set_option maxRecDepth 100000 in
set_option maxHeartbeats 4000000 in
theorem awake44_any (w : World) (he : Env w) : Calls Tryd.prog 7 #[] w fun e w' => e = .returned (.bool true) ∧ Kp w w' := by
  have HE := Lib.hid he
  clear he
  go_enter Tryd.func7, Tryd.ntmps7
  go_wp2_with fail
  refine (aw_run1 (B := w.heap.size) (HE.out.kp (by (repeat (first | with_reducible assumption | with_reducible exact Kp.refl _ | with_reducible refine Kp.drew ?_ | with_reducible refine Kp.drewN ?_ _ | with_reducible refine Kp.alloc ?_ _ | ((with_reducible refine Kp.setCell ?_ ?_ _); rotate_left; (focus (first | omega | (simp; done) | (simp; omega)))) | with_reducible refine Kp.trans ?_ (by assumption))))) (by (repeat (first | with_reducible assumption | ((with_reducible refine Blk.newL ?_ ?_); (focus (first | (simp; done) | omega)); rfl) | with_reducible refine Blk.drew ?_ | with_reducible refine Blk.drewN ?_ _ | with_reducible refine Blk.alloc ?_ _ | ((with_reducible refine Blk.other ?_ ?_ _); rotate_left; (focus (first | with_reducible assumption | omega | (simp; done) | (simp; omega))))))) (by (repeat (first | with_reducible assumption | ((with_reducible refine Blk.newL ?_ ?_); (focus (first | (simp; done) | omega)); rfl) | with_reducible refine Blk.drew ?_ | with_reducible refine Blk.drewN ?_ _ | with_reducible refine Blk.alloc ?_ _ | ((with_reducible refine Blk.other ?_ ?_ _); rotate_left; (focus (first | with_reducible assumption | omega | (simp; done) | (simp; omega))))))) (by (repeat (first | with_reducible assumption | ((with_reducible refine Blk.newL ?_ ?_); (focus (first | (simp; done) | omega)); rfl) | with_reducible refine Blk.drew ?_ | with_reducible refine Blk.drewN ?_ _ | with_reducible refine Blk.alloc ?_ _ | ((with_reducible refine Blk.other ?_ ?_ _); rotate_left; (focus (first | with_reducible assumption | omega | (simp; done) | (simp; omega)))))))).mono ?_
  rintro e w1 ⟨rfl, k1⟩
  have b0 : Blk w1 w.heap.size [.int .i64 1, .int .i64 2, .int .i64 0, .int .i64 0, .int .i64 3, .int .i64 4, .int .i64 1, .int .i64 0, .int .i64 4, .int .i64 1] 30 := Blk.kp (by (repeat (first | with_reducible assumption | ((with_reducible refine Blk.newL ?_ ?_); (focus (first | (simp; done) | omega)); rfl) | with_reducible refine Blk.drew ?_ | with_reducible refine Blk.drewN ?_ _ | with_reducible refine Blk.alloc ?_ _ | ((with_reducible refine Blk.other ?_ ?_ _); rotate_left; (focus (first | with_reducible assumption | omega | (simp; done) | (simp; omega))))))) k1
  have b1 : Blk w1 (w.heap.size + 1) [.int .i64 0, .slice (some ⟨w.heap.size, 0, none⟩) 2 2] 41 := Blk.kp (by (repeat (first | with_reducible assumption | ((with_reducible refine Blk.newL ?_ ?_); (focus (first | (simp; done) | omega)); rfl) | with_reducible refine Blk.drew ?_ | with_reducible refine Blk.drewN ?_ _ | with_reducible refine Blk.alloc ?_ _ | ((with_reducible refine Blk.other ?_ ?_ _); rotate_left; (focus (first | with_reducible assumption | omega | (simp; done) | (simp; omega))))))) k1
  have b2 : Blk w1 (w.heap.size + 2) [.slice (some ⟨w.heap.size + 1, 0, none⟩) 1 1, .int .i64 (-1), .int .i64 5, .int .i64 5] 39 := Blk.kp (by (repeat (first | with_reducible assumption | ((with_reducible refine Blk.newL ?_ ?_); (focus (first | (simp; done) | omega)); rfl) | with_reducible refine Blk.drew ?_ | with_reducible refine Blk.drewN ?_ _ | with_reducible refine Blk.alloc ?_ _ | ((with_reducible refine Blk.other ?_ ?_ _); rotate_left; (focus (first | with_reducible assumption | omega | (simp; done) | (simp; omega))))))) k1
  have kw1 : Kp w w1 := Kp.trans (by (repeat (first | with_reducible assumption | with_reducible exact Kp.refl _ | with_reducible refine Kp.drew ?_ | with_reducible refine Kp.drewN ?_ _ | with_reducible refine Kp.alloc ?_ _ | ((with_reducible refine Kp.setCell ?_ ?_ _); rotate_left; (focus (first | omega | (simp; done) | (simp; omega)))) | with_reducible refine Kp.trans ?_ (by assumption)))) k1
  clear k1
  go_wp2_with fail
  refine (aw_run2 (B := w.heap.size) (HE.out.kp kw1) b0 b1 b2).mono ?_
  rintro e w2 ⟨rfl, k2⟩
  have kw2 := kw1.trans k2
  go_wp2_with fail
  refine (aw_run3 (B := w.heap.size) (HE.out.kp kw2) (b0.kp k2) (b1.kp k2) (b2.kp k2)).mono ?_
  rintro e w3 ⟨rfl, k3⟩
  have kw3 := kw2.trans k3
  clear b0 b1 b2 k2 k3 kw1 kw2
  go_wp2_with fail
  (try go_ret)
  exact ⟨rfl, kw3⟩
set_option maxRecDepth 100000 in
set_option maxHeartbeats 4000000 in
theorem showPagesLaw_any (a : Option Addr) (len cap : Nat) (l : List Page) (w : World) (hl : SlOk w 4 Page.cells a len cap l) (hg : ∀ y, y ∈ l → y.good w) (he : Env w) :
    Calls Tryd.prog 3 #[.slice a len cap] w fun e w' => e = .returned (.bool true) ∧ Kp w w' := by
  have HE := Lib.hid he
  have HL := Lib.hid hl
  have HG := Lib.hid hg
  have C := Lib.hid (large_any a len cap l w hl hg)
  have hlen := hl.1
  subst hlen
  clear he hl hg
  go_enter Tryd.func3, Tryd.ntmps3
  by_cases hb : largeL l = true
  · go_wp2_with fail
    refine C.out.mono ?_
    rintro e w1 ⟨rfl, rfl⟩
    go_wp2_with fail
    refine (awake44_any _ HE.out).mono ?_
    rintro e w2 ⟨rfl, k2⟩
    go_wp2_with fail
    (try go_ret)
    exact ⟨rfl, k2⟩
  · have hb' : largeL l = false := by simpa using hb
    have HS := Lib.hid (small_of hb')
    clear hb
    obtain ⟨P, hP⟩ : ∃ P, pagesN l l.length = P := ⟨_, rfl⟩
    obtain ⟨O, hO⟩ : ∃ P, outlineN l l.length = P := ⟨_, rfl⟩
    have HP := Lib.hid hP
    have HO := Lib.hid hO
    clear hP hO
    go_wp2_with fail
    refine C.out.mono ?_
    rintro e w1 ⟨rfl, rfl⟩
    go_wp2_with fail
    refine (showPages_any a cap l _ HE.out HL.out HG.out HS.out).mono ?_
    rintro e w2 ⟨rfl, k2⟩
    rw [HP.out]
    go_wp2_with fail
    refine (refPages_any a cap l _ (HL.out.kp k2) (fun y hy => (HG.out y hy).kp k2) HS.out).mono ?_
    rintro e w3 ⟨rfl, k3⟩
    rw [HP.out]
    have kw3 := k2.trans k3
    clear k2 k3
    go_wp2_with fail
    refine (outline_any a cap l _ (HE.out.kp kw3) (HL.out.kp kw3) (fun y hy => (HG.out y hy).kp kw3) HS.out).mono ?_
    rintro e w4 ⟨rfl, k4⟩
    rw [HO.out]
    have kw4 := kw3.trans k4
    clear k4 kw3
    go_wp2_with fail
    refine (refOutline_any a cap l _ (HL.out.kp kw4) (fun y hy => (HG.out y hy).kp kw4) HS.out).mono ?_
    rintro e w5 ⟨rfl, k5⟩
    rw [HO.out]
    have kw5 := kw4.trans k5
    clear k5 kw4
    go_wp2_with fail
    refine (awake44_any _ (HE.out.kp kw5)).mono ?_
    rintro e w6 ⟨rfl, k6⟩
    have kw6 := kw5.trans k6
    go_wp2_with fail
    (try go_ret)
    exact ⟨rfl, kw6⟩
/-- The drawing, at any step. -/
def sketchL (l : List Page) (step : Int) : List UInt8 := if step < 1 then [] else sketchN (min step 4503599627370496) l l.length
theorem sketch_any (a : Option Addr) (cap : Nat) (l : List Page) (step : Int) (w : World) (he : Env w) (hl : SlOk w 4 Page.cells a l.length cap l) (hg : ∀ y, y ∈ l → y.good w) (hs : Small l) :
    Calls Tryd.prog 12 #[.slice a l.length cap, .int .i64 step] w fun e w' => e = .returned (sv (sketchL l step)) ∧ Kp w w' := by
  unfold sketchL
  by_cases h : step < 1
  · rw [if_pos h]; exact sketch_no a _ cap step w h
  · rw [if_neg h]; exact sketch_yes a cap l step w he hl hg hs (by omega)
theorem refSketch_any (a : Option Addr) (cap : Nat) (l : List Page) (step : Int) (w : World) (hl : SlOk w 4 Page.cells a l.length cap l) (hg : ∀ y, y ∈ l → y.good w) (hs : Small l) (h9 : step ≤ 9223372036854775807) :
    Calls Tryd.prog 13 #[.slice a l.length cap, .int .i64 step] w fun e w' => e = .returned (sv (sketchL l step)) ∧ Kp w w' := by
  unfold sketchL
  by_cases h : step < 1
  · rw [if_pos h]; exact refSketch_no a _ cap step w h
  · rw [if_neg h]; exact refSketch_yes a cap l step w hl hg hs (by omega) h9
set_option maxRecDepth 100000 in
set_option maxHeartbeats 4000000 in
theorem showSketchLaw_any (a : Option Addr) (len cap : Nat) (l : List Page) (step : Int) (w : World) (hl : SlOk w 4 Page.cells a len cap l) (hg : ∀ y, y ∈ l → y.good w) (he : Env w) (h9 : step ≤ 9223372036854775807) :
    Calls Tryd.prog 4 #[.slice a len cap, .int .i64 step] w fun e w' => e = .returned (.bool true) ∧ Kp w w' := by
  have HE := Lib.hid he
  have HL := Lib.hid hl
  have HG := Lib.hid hg
  have C := Lib.hid (large_any a len cap l w hl hg)
  have hlen := hl.1
  subst hlen
  clear he hl hg
  go_enter Tryd.func4, Tryd.ntmps4
  by_cases hb : largeL l = true
  · go_wp2_with fail
    refine C.out.mono ?_
    rintro e w1 ⟨rfl, rfl⟩
    go_wp2_with fail
    refine (awake44_any _ HE.out).mono ?_
    rintro e w2 ⟨rfl, k2⟩
    go_wp2_with fail
    (try go_ret)
    exact ⟨rfl, k2⟩
  · have hb' : largeL l = false := by simpa using hb
    have HS := Lib.hid (small_of hb')
    clear hb
    obtain ⟨P, hP⟩ : ∃ P, sketchL l step = P := ⟨_, rfl⟩
    have HP := Lib.hid hP
    clear hP
    go_wp2_with fail
    refine C.out.mono ?_
    rintro e w1 ⟨rfl, rfl⟩
    go_wp2_with fail
    refine (sketch_any a cap l step _ HE.out HL.out HG.out HS.out).mono ?_
    rintro e w2 ⟨rfl, k2⟩
    rw [HP.out]
    go_wp2_with fail
    refine (refSketch_any a cap l step _ (HL.out.kp k2) (fun y hy => (HG.out y hy).kp k2) HS.out h9).mono ?_
    rintro e w3 ⟨rfl, k3⟩
    rw [HP.out]
    have kw3 := k2.trans k3
    clear k2 k3
    go_wp2_with fail
    refine (awake44_any _ (HE.out.kp kw3)).mono ?_
    rintro e w6 ⟨rfl, k6⟩
    have kw6 := kw3.trans k6
    go_wp2_with fail
    (try go_ret)
    exact ⟨rfl, kw6⟩
theorem showPages_row (x : SlV Page) (w : World) (h : SlOk w 4 Page.cells x.a x.len x.cap x.l ∧ ∀ y, y ∈ x.l → y.good w) (he : Env w) :
    Calls Tryd.prog 3 #[x.v] w fun e w' => e = .returned (.bool true) ∧ Kp w w' := showPagesLaw_any x.a x.len x.cap x.l w h.1 h.2 he
theorem showSketch_row (x : SlV Page) (step : Int) (w : World) (h : SlOk w 4 Page.cells x.a x.len x.cap x.l ∧ ∀ y, y ∈ x.l → y.good w) (hs : I64 step) (he : Env w) :
    Calls Tryd.prog 4 #[x.v, .int .i64 step] w fun e w' => e = .returned (.bool true) ∧ Kp w w' := showSketchLaw_any x.a x.len x.cap x.l step w h.1 h.2 he hs.2
end Go.Proofs.YtfiejiokconobaaDoor
