/- The document's line. -/
import Derived.Test.YtkglkbkikgncoaaDoorDig

namespace Go.Proofs.YtkglkbkikgncoaaDoor

open Go.RowKit

set_option maxRecDepth 100000 in
set_option maxHeartbeats 2000000 in
theorem refLine_any (a : Option Addr) (cap : Nat) (wd : List UInt8) (ns : List Int) (w : World) (hl : SlOk w 1 enc1 a ns.length cap ns) (hi : ∀ x, x ∈ ns → I64 x) (hw : wd.length ≤ 1000) (hn : ns.length ≤ 1000) :
    Calls Tryd.prog 36 #[sv wd, .slice a ns.length cap] w fun e w' => e = .returned (sv (lineL wd ns)) ∧ Kp w w' := by
  have HL := Lib.hid hl
  have HI := Lib.hid hi
  have hcl := hl.2.1
  have hcm := hl.2.2.1
  unfold maxLen at hcm
  have BA := @ba_append
  clear hl hi
  go_enter Tryd.func36, Tryd.ntmps36
  go_wp2_with fail
  go_loopw [5, 6] (fun v5 v6 wr => ∃ (k : Nat), k ≤ ns.length ∧ v6 = .int .i64 k ∧ v5 = sv (wd ++ (ns.take k).flatMap numL) ∧ Kp w wr) (fun _ v6 _ => ns.length - (intOf v6).toNat)
  case atStart => exact ⟨0, Nat.zero_le _, rfl, by simp, (by (repeat (first | with_reducible assumption | with_reducible exact Kp.refl _ | with_reducible refine Kp.drew ?_ | with_reducible refine Kp.drewN ?_ _ | with_reducible refine Kp.alloc ?_ _ | ((with_reducible refine Kp.setCell ?_ ?_ _); rotate_left; (focus (first | omega | (simp; done) | (simp; omega)))) | with_reducible refine Kp.trans ?_ (by assumption))))⟩
  case round =>
    obtain ⟨k, hk, rfl, rfl, xk⟩ := hrel
    have hfl : ((ns.take k).flatMap numL).length ≤ 22 * 1000 := Nat.le_trans (flat_short fun x hx => HI.out x (List.mem_of_mem_take hx)) (by rw [List.length_take]; omega)
    obtain ⟨t, ht⟩ : ∃ t, (ns.take k).flatMap numL = t := ⟨_, rfl⟩
    obtain ⟨u, hu⟩ : ∃ u, wd ++ t = u := ⟨_, rfl⟩
    have hul : u.length = wd.length + t.length := by rw [← hu, List.length_append]
    rw [ht] at hfl
    rw [ht, hu]
    by_cases hlt : k < ns.length
    · obtain ⟨x, hx⟩ : ∃ x, ns[k]? = some x := ⟨ns[k]'hlt, List.getElem?_eq_getElem _⟩
      have hxi := HI.out x (List.mem_of_getElem? hx)
      have hxs := itoa_short hxi
      have hs := flat_snoc (f := numL) hx
      rw [ht] at hs
      have hs' : u ++ [32] ++ Lib.itoa x = wd ++ (ns.take (k + 1)).flatMap numL := by rw [hs, ← hu]; simp [numL]
      have HS := Lib.hid hs'
      have tl := HL.out.kp xk
      rcases tl.2.2.2 with e | ⟨ga, oa, rfl, hga, r1⟩
      · rw [e] at hlt; simp at hlt
      have d0 := r1 k _ hx 0 _ rfl
      simp only [Nat.add_zero, Nat.mul_one] at d0
      have j1 : decide ((k : Int) < (ns.length : Int)) = true := decide_eq_true (by omega)
      have C := Lib.hid (number_any x hxi)
      obtain ⟨n, hn'⟩ : ∃ n, Lib.itoa x = n := ⟨_, rfl⟩
      rw [hn'] at C HS hxs
      have hs1 : ¬ 9223372036854775807 < u.length + 1 := by omega
      have hs2 : ¬ 9223372036854775807 < u.length + 1 + n.length := by omega
      have hs3 : ¬ 9223372036854775807 < u.length + (n.length + 1) := by omega
      clear tl r1 hx hs hs' ht hu hul hxi hn' hfl hxs HL HI
      go_wp2_with fail
      refine (C.out _).mono ?_
      rintro e w2 ⟨rfl, k2⟩
      have k3 := xk.trans k2
      clear xk k2
      go_wp2_with fail
      go_roundw
      case rel => exact ⟨k + 1, by omega, by go_num, by first | (rw [← HS.out]; simp) | rw [← HS.out], k3⟩
      case measure => simp [intOf]; omega
    · obtain rfl : k = ns.length := by omega
      have j1 : decide ((ns.length : Int) < (ns.length : Int)) = false := decide_eq_false (by omega)
      rw [List.take_length] at ht
      go_wp2_with fail
      (try go_ret)
      exact ⟨by unfold lineL; rw [ht, hu]; rfl, xk⟩
end Go.Proofs.YtkglkbkikgncoaaDoor
