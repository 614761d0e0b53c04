/- A galley's lines: many, parse. -/
import Derived.Test.YtkglkbkikgncoaaDoorG2

import Derived.Laws.IdiomStrings

import Derived.Laws.EntriesVeiled

namespace Go.Proofs.YtkglkbkikgncoaaDoor

open Go.ChangeShapes Go.WideShapes Go.ChangeAt Go.RowKit Go.Shelf

/-- What a line that can't be read goes out by. -/
abbrev gone : List PanicEntry := [{ v := .iface 83 (.agg #[]), recovered := false }]
set_option maxHeartbeats 1000000 in
theorem many_yes (wd : List UInt8) (a : Option Addr) (n c : Nat) (w : World) :
    Calls Tryd.prog 41 #[.agg #[sv wd, .slice a n c], .int .i64 (n : Int)] w fun e w' => e = .returned (.slice a n c) ∧ Kp w w' := by
  go_enter Tryd.func41, Tryd.ntmps41
  go_wp2_with fail
  (try go_ret)
  exact ⟨rfl, (by (repeat (first | with_reducible assumption | with_reducible exact Kp.refl _ | with_reducible refine Kp.drew ?_ | with_reducible refine Kp.drewN ?_ _ | with_reducible refine Kp.alloc ?_ _ | ((with_reducible refine Kp.setCell ?_ ?_ _); rotate_left; (focus (first | omega | (simp; done) | (simp; omega)))) | with_reducible refine Kp.trans ?_ (by assumption))))⟩
set_option maxHeartbeats 1000000 in
theorem many_no (wd : List UInt8) (a : Option Addr) (n c m : Nat) (w : World) (h : n ≠ m) :
    Calls Tryd.prog 41 #[.agg #[sv wd, .slice a n c], .int .i64 (m : Int)] w fun e w' => e = .panicked gone ∧ Kp w w' := by
  have j1 : ((n : Int) != (m : Int)) = true := by simp; omega
  have j2 : (n != m) = true := by simp; omega
  have j3 : ((n : Int) == (m : Int)) = false := by simp; omega
  have j4 : (n == m) = false := by simp; omega
  go_enter Tryd.func41, Tryd.ntmps41
  go_wp2_with fail
  exact ⟨rfl, rfl, (by (repeat (first | with_reducible assumption | with_reducible exact Kp.refl _ | with_reducible refine Kp.drew ?_ | with_reducible refine Kp.drewN ?_ _ | with_reducible refine Kp.alloc ?_ _ | ((with_reducible refine Kp.setCell ?_ ?_ _); rotate_left; (focus (first | omega | (simp; done) | (simp; omega)))) | with_reducible refine Kp.trans ?_ (by assumption))))⟩
theorem mapM_snoc {ws : List (List UInt8)} {k : Nat} {x : List UInt8} {ns : List Int} {v : Int} (hx : ws[k]? = some x) (h : (ws.take k).mapM canon = some ns) (hv : canon x = some v) : (ws.take (k + 1)).mapM canon = some (ns ++ [v]) := by
  rw [List.take_add_one, hx, Option.toList_some, List.mapM_append, h]
  simp [hv]
theorem mapM_none {ws : List (List UInt8)} {k : Nat} {x : List UInt8} (hx : ws[k]? = some x) (hv : canon x = none) : ws.mapM canon = none := by
  have e : ws = ws.take k ++ x :: ws.drop (k + 1) := by
    have h := List.getElem?_eq_some_iff.1 hx
    rw [← h.2, List.getElem_cons_drop, List.take_append_drop]
  rw [e, List.mapM_append]
  cases (ws.take k).mapM canon <;> simp [hv]
theorem parseInt_yes (x : List UInt8) (v : Int) (hx : x.length ≤ 100000) (h : Lib.parseIntB 64 x = .ok v) (w : World) :
    Calls Tryd.prog 43 #[sv x, .int .i64 10, .int .i64 64] w fun e w' => e = .returned (.tuple #[.int .i64 v, .nilIface]) ∧ Kp w w' := by
  refine (Tryd.strconv_ParseInt_10_at64_ok ⟨x.toArray⟩ (by rw [size_sv]; omega) v h w).mono ?_
  rintro e w' ⟨rfl, rfl | ⟨t, rfl⟩⟩
  · exact ⟨rfl, Kp.refl _⟩
  · exact ⟨rfl, Lib.bytesWorld_below _ _ _⟩
theorem parseInt_no (x : List UInt8) (hx : x.length ≤ 100000) (h : ∀ v, Lib.parseIntB 64 x ≠ .ok v) (w : World) (he : Env w) :
    Calls Tryd.prog 43 #[sv x, .int .i64 10, .int .i64 64] w fun e w' => ∃ n N, e = .returned (.tuple #[.int .i64 n, .iface 109 (.pointer (some ⟨N, 0, none⟩))]) ∧ Kp w w' := by
  have hs : (⟨x.toArray⟩ : ByteArray).size ≤ 281474976710656 := by rw [size_sv]; omega
  rcases hp : Lib.parseIntB 64 x with v | _ | _
  · exact absurd hp (h v)
  · obtain ⟨te, pe, t, f, hh⟩ := he.errS
    refine (Any.strconv_ParseInt_10_at64_syntax Tryd.laysC174 ⟨x.toArray⟩ hs hp (.iface te pe) w (show w.cell? ⟨2, 0, none⟩ = _ by simp [World.cell?, hh]) (.inr ⟨te, pe, rfl⟩)).mono ?_
    rintro e w' ⟨N, rfl, _, _, k⟩
    exact ⟨_, N, rfl, k⟩
  · obtain ⟨te, pe, t, f, hh⟩ := he.errR
    refine (Tryd.strconv_ParseInt_10_at64_range ⟨x.toArray⟩ hs hp (.iface te pe) w (by simp [World.cell?, hh]) (.inr ⟨te, pe, rfl⟩)).mono ?_
    rintro e w' ⟨N, rfl, _, _, k⟩
    exact ⟨_, N, rfl, k⟩
theorem split_any (s : List UInt8) (hs : s.length ≤ 100000) (w : World) (he : Env w) :
    Calls Tryd.prog 42 #[sv s, .string ⟨#[32]⟩] w fun e w' => e = .returned (.slice (some ⟨w.heap.size, 0, none⟩) (splitW s).length (splitW s).length) ∧ w' = w.alloc (.cells ((splitW s).map sv).toArray 9) := by
  obtain ⟨m, t, f, hh⟩ := he.maxl
  obtain ⟨e1, e2⟩ := split_run s
  refine (Tryd.strings_Split ⟨s.toArray⟩ ⟨#[32]⟩ m w (by rw [size_sv]; omega) (by simp [World.cell?, hh]) (by decide)).mono ?_
  rintro e w' ⟨rfl, rfl⟩
  rw [e1, e2]
  exact ⟨rfl, rfl⟩
end Go.Proofs.YtkglkbkikgncoaaDoor
