/- A galley's lines: many, parse. -/
import Derived.Test.YtaekeogaakogbaaGreatDoorG2

import Derived.Laws.IdiomStrings

import Derived.Laws.EntriesVeiled

namespace Go.Proofs.YtaekeogaakogbaaGreatDoor

open Go.ChangeShapes Go.WideShapes Go.ChangeAt Go.RowKit Go.Shelf

theorem mapM_snoc {ws : List (List UInt8)} {k : Nat} {x : List UInt8} {ns : List Int} {v : Int} (hx : ws[k]? = some x) (h : (ws.take k).mapM canon = some ns) (hv : canon x = some v) : (ws.take (k + 1)).mapM canon = some (ns ++ [v]) := by
  rw [List.take_add_one, hx, Option.toList_some, List.mapM_append, h]
  simp [hv]
theorem mapM_none {ws : List (List UInt8)} {k : Nat} {x : List UInt8} (hx : ws[k]? = some x) (hv : canon x = none) : ws.mapM canon = none := by
  have e : ws = ws.take k ++ x :: ws.drop (k + 1) := by
    have h := List.getElem?_eq_some_iff.1 hx
    rw [← h.2, List.getElem_cons_drop, List.take_append_drop]
  rw [e, List.mapM_append]
  cases (ws.take k).mapM canon <;> simp [hv]
theorem parseInt_yes (x : List UInt8) (v : Int) (hx : x.length ≤ 100000) (h : Lib.parseIntB 64 x = .ok v) (w : World) :
    Calls Tryz.prog 58 #[sv x, .int .i64 10, .int .i64 64] w fun e w' => e = .returned (.tuple #[.int .i64 v, .nilIface]) ∧ Kp w w' := by
  refine (Tryz.strconv_ParseInt_10_at64_ok ⟨x.toArray⟩ (by rw [size_sv]; omega) v h w).mono ?_
  rintro e w' ⟨rfl, rfl | ⟨t, rfl⟩⟩
  · exact ⟨rfl, Kp.refl _⟩
  · exact ⟨rfl, Lib.bytesWorld_below _ _ _⟩
theorem parseInt_no (x : List UInt8) (hx : x.length ≤ 100000) (h : ∀ v, Lib.parseIntB 64 x ≠ .ok v) (w : World) (he : Env w) :
    Calls Tryz.prog 58 #[sv x, .int .i64 10, .int .i64 64] w fun e w' => ∃ n N, e = .returned (.tuple #[.int .i64 n, .iface 143 (.pointer (some ⟨N, 0, none⟩))]) ∧ Kp w w' := by
  have hs : (⟨x.toArray⟩ : ByteArray).size ≤ 281474976710656 := by rw [size_sv]; omega
  rcases hp : Lib.parseIntB 64 x with v | _ | _
  · exact absurd hp (h v)
  · obtain ⟨te, pe, t, f, hh⟩ := he.errS
    refine (Any.strconv_ParseInt_10_at64_syntax Tryz.laysC174 ⟨x.toArray⟩ hs hp (.iface te pe) w (show w.cell? ⟨2, 0, none⟩ = _ by simp [World.cell?, hh]) (.inr ⟨te, pe, rfl⟩)).mono ?_
    rintro e w' ⟨N, rfl, _, _, k⟩
    exact ⟨_, N, rfl, k⟩
  · obtain ⟨te, pe, t, f, hh⟩ := he.errR
    refine (Tryz.strconv_ParseInt_10_at64_range ⟨x.toArray⟩ hs hp (.iface te pe) w (by simp [World.cell?, hh]) (.inr ⟨te, pe, rfl⟩)).mono ?_
    rintro e w' ⟨N, rfl, _, _, k⟩
    exact ⟨_, N, rfl, k⟩
theorem split_any (s : List UInt8) (hs : s.length ≤ 100000) (w : World) (he : Env w) :
    Calls Tryz.prog 57 #[sv s, .string ⟨#[32]⟩] w fun e w' => e = .returned (.slice (some ⟨w.heap.size, 0, none⟩) (splitW s).length (splitW s).length) ∧ w' = w.alloc (.cells ((splitW s).map sv).toArray 9) := by
  obtain ⟨m, t, f, hh⟩ := he.maxl
  obtain ⟨e1, e2⟩ := split_run s
  refine (Tryz.strings_Split ⟨s.toArray⟩ ⟨#[32]⟩ m w (by rw [size_sv]; omega) (by simp [World.cell?, hh]) (by decide)).mono ?_
  rintro e w' ⟨rfl, rfl⟩
  rw [e1, e2]
  exact ⟨rfl, rfl⟩
end Go.Proofs.YtaekeogaakogbaaGreatDoor
