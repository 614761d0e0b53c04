/- The document's words, and a word's place (tympanref43). -/
import Derived.Test.YtaekeogaakogbaaGreatDoorK2

namespace Go.Proofs.YtaekeogaakogbaaGreatDoor

open Go.ChangeShapes Go.WideShapes Go.ChangeAt Go.RowKit Go.Shelf

def gw8 : List (List UInt8) := [wBal, kBox, kGlue, kPen, kMark, kNote, kFloat, kBar]
def gw26 : List (List UInt8) := gw ++ gw8
/-- A word's place among the words. -/
def plN (w : List UInt8) : Option Nat := gw26.findIdx? (fun x => x == w)
def plI (w : List UInt8) : Int := match plN w with
  | some i => (i : Int)
  | none => -1
theorem gw26_len : gw26.length = 26 := rfl
theorem plN_yes {w : List UInt8} {i : Nat} (hi : gw26[i]? = some w) (h : ∀ j x, j < i → gw26[j]? = some x → x ≠ w) : plN w = some i := by
  obtain ⟨hl, he⟩ := List.getElem?_eq_some_iff.1 hi
  unfold plN
  rw [List.findIdx?_eq_some_iff_getElem]
  refine ⟨hl, by rw [he]; exact beq_self_eq_true w, fun j hj => ?_⟩
  have := h j gw26[j] hj (List.getElem?_eq_getElem (Nat.lt_trans hj hl))
  rw [beq_eq_false_iff_ne.2 this]
  simp
theorem plN_no {w : List UInt8} (h : ∀ j x, j < 26 → gw26[j]? = some x → x ≠ w) : plN w = none := by
  unfold plN
  rw [List.findIdx?_eq_none_iff]
  intro x hx
  obtain ⟨j, hj, he⟩ := List.mem_iff_getElem.1 hx
  exact beq_eq_false_iff_ne.2 (h j x hj (by rw [List.getElem?_eq_getElem hj, he]))
theorem plN_app (w : List UInt8) : plN w = (gi w).or ((gw8.findIdx? (fun x => x == w)).map (· + 18)) := by
  unfold plN gw26
  rw [List.findIdx?_append]
  rfl
/-- What a word's place tells. -/
theorem plN_lo {w : List UInt8} {i : Nat} (h : plN w = some i) (hi : i < 18) : gi w = some i := by
  rw [plN_app] at h
  rcases hg : gi w with _ | k
  · rw [hg, Option.none_or, Option.map_eq_some_iff] at h
    obtain ⟨m, _, h2⟩ := h
    omega
  · rw [hg, Option.some_or] at h
    exact h
theorem plN_hi {w : List UInt8} {i : Nat} (h : plN w = some i) (hi : 18 ≤ i) : gi w = none ∧ gw8[i - 18]? = some w := by
  rw [plN_app] at h
  rcases hg : gi w with _ | k
  · rw [hg, Option.none_or, Option.map_eq_some_iff] at h
    obtain ⟨m, h1, h2⟩ := h
    obtain ⟨hl, h3, _⟩ := List.findIdx?_eq_some_iff_getElem.1 h1
    obtain rfl : m = i - 18 := by omega
    exact ⟨rfl, by rw [List.getElem?_eq_getElem hl]; exact congrArg some (beq_iff_eq.1 h3)⟩
  · rw [hg, Option.some_or] at h
    have := (gi_lt hg).1
    cases h
    omega
theorem plN_none {w : List UInt8} (h : plN w = none) : gi w = none ∧ ∀ x, x ∈ gw8 → x ≠ w := by
  rw [plN_app, Option.or_eq_none_iff, Option.map_eq_none_iff] at h
  exact ⟨h.1, fun x hx e => by
    have := List.findIdx?_eq_none_iff.1 h.2 x hx
    rw [e, beq_self_eq_true] at this
    cases this⟩
theorem plN_lt {w : List UInt8} {i : Nat} (h : plN w = some i) : i < 26 := (List.findIdx?_eq_some_iff_getElem.1 h).1
set_option maxRecDepth 100000 in
set_option maxHeartbeats 8000000 in
theorem words26_any (w : World) : Calls Tryz.prog 68 #[] w fun e w' => e = .returned (.slice (some ⟨w.heap.size, 0, none⟩) 26 26) ∧ Blk w' w.heap.size (gw26.map sv) 9 ∧ Kp w w' := by
  go_enter Tryz.func68, Tryz.ntmps68
  go_wp2_with fail
  (try go_ret)
  exact ⟨rfl, Blk.newL rfl rfl, (by (repeat (first | with_reducible assumption | with_reducible exact Kp.refl _ | with_reducible refine Kp.drew ?_ | with_reducible refine Kp.drewN ?_ _ | with_reducible refine Kp.alloc ?_ _ | ((with_reducible refine Kp.setCell ?_ ?_ _); rotate_left; (focus (first | omega | (simp; done) | (simp; omega)))) | with_reducible refine Kp.trans ?_ (by assumption))))⟩
set_option maxRecDepth 100000 in
set_option maxHeartbeats 8000000 in
theorem place_any (wd : List UInt8) (w : World) : Calls Tryz.prog 27 #[sv wd] w fun e w' => e = .returned (.int .i64 (plI wd)) ∧ Kp w w' := by
  go_enter Tryz.func27, Tryz.ntmps27
  go_wp2_with fail
  refine (words26_any _).mono ?_
  rintro e w1 ⟨rfl, hb1, k1⟩
  have hw1 := k1.size
  go_wp2_with fail
  go_loopw [4] (fun v4 wr => ∃ i : Nat, i ≤ 26 ∧ v4 = .int .i64 (i : Int) ∧ (∀ j x, j < i → gw26[j]? = some x → x ≠ wd) ∧ Blk wr w.heap.size (gw26.map sv) 9 ∧ Kp w wr) (fun v4 _ => 26 - (intOf v4).toNat)
  case atStart => exact ⟨0, Nat.zero_le _, rfl, fun j x hj => by omega, hb1, k1⟩
  case round =>
    obtain ⟨i, hi, rfl, hne, xb, xk⟩ := hrel
    have xbl := xb.lt
    have HNE := Lib.hid hne
    clear hne
    by_cases hlt : i < 26
    · obtain ⟨x, hx⟩ : ∃ x, gw26[i]? = some x := ⟨gw26[i]'hlt, List.getElem?_eq_getElem hlt⟩
      have d0 := xb.cell i (v := sv x) (by rw [List.getElem?_map, hx]; rfl)
      have ji : decide ((i : Int) < 26) = true := decide_eq_true (by omega)
      have ji' : decide (i < 26) = true := decide_eq_true hlt
      by_cases he : x = wd
      · subst he
        have HP : Hid (plI x = (i : Int)) := Lib.hid (by unfold plI; rw [plN_yes hx HNE.out])
        clear hx
        go_wp2_with fail
        refine bodyPost_ret (v := .int .i64 (i : Int)) (by simp [results, Tryz.results27, go_sem]) rfl ?_
        exact ⟨by rw [HP.out], xk⟩
      · have je : (x == wd) = false := beq_eq_false_iff_ne.2 he
        have HX : Hid (∀ j y, j < i + 1 → gw26[j]? = some y → y ≠ wd) := Lib.hid fun j y hj hy => by
          by_cases e : j = i
          · rw [e, hx] at hy
            cases hy
            exact he
          · exact HNE.out j y (by omega) hy
        clear hx he
        go_wp2_with fail
        go_roundw
        case rel => exact ⟨i + 1, by omega, by go_num, HX.out, xb, xk⟩
        case measure => simp [intOf]; omega
    · obtain rfl : i = 26 := by omega
      have HP : Hid (plI wd = -1) := Lib.hid (by unfold plI; rw [plN_no HNE.out])
      go_wp2_with fail
      refine bodyPost_ret (v := .int .i64 (-1)) (by simp [results, Tryz.results27, go_sem]) rfl ?_
      exact ⟨by rw [HP.out], xk⟩
end Go.Proofs.YtaekeogaakogbaaGreatDoor
