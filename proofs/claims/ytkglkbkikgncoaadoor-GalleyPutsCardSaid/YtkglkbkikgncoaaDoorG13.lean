/- A galley's Read along a chain of states. -/
import Derived.Test.YtkglkbkikgncoaaDoorG12

namespace Go.Proofs.YtkglkbkikgncoaaDoor

open Go.ChangeShapes Go.WideShapes Go.ChangeAt Go.RowKit Go.Shelf

set_option maxRecDepth 100000 in
set_option maxHeartbeats 8000000 in
theorem read_done (w : World) (N : Nat) (lines rests : Nat → List UInt8) (St : Nat → Nat → Value → World → Prop) (hC : Chain w N lines rests St) (he : Env w) (hN : N ≤ 100000) (hend : rests N = [])
    (h0 : ∀ O w1, w.heap.size ≤ O → Kp w w1 → Blk w1 O [.slice none 0 0] 23 → St 0 O (.slice none 0 0) w1) :
    Calls Tryd.prog 7 #[sv (rests 0)] w fun e w' => Kp w w' ∧ ∃ O v, e = .returned (.tuple #[v, .int .i64 0]) ∧ St N O v w' := by
  have hmf : ∀ (fn : Fn) (first cap : Array Value) (w : World), (Instr.makeFunc fn first cap).run Tryd.prog w = .ok (.func fn first cap) w := fun _ _ _ _ => rfl
  have HE := Lib.hid he
  have HC := Lib.hid hC
  have H0 := Lib.hid h0
  have HEND := Lib.hid hend
  clear he hC h0 hend
  obtain ⟨s0, hs0⟩ : ∃ s, rests 0 = s := ⟨_, rfl⟩
  rw [hs0]
  have HS0 := Lib.hid hs0
  clear hs0
  go_enter Tryd.func7, Tryd.ntmps7
  go_wp2_with fail
  go_step3
  go_wp2_with fail
  go_step3
  go_wp2_with fail
  go_loopw [0, 5] (fun v0 v5 wr => ∃ (k : Nat) (v : Value), k ≤ N ∧ v0 = sv (rests k) ∧ v5 = .int .i64 (k : Int) ∧ St k w.heap.size v wr ∧ Kp w wr) (fun _ v5 _ => N - (intOf v5).toNat)
  case atStart => exact ⟨0, _, Nat.zero_le _, by rw [HS0.out], rfl, H0.out _ _ (Nat.le_refl _) (by (repeat (first | with_reducible assumption | with_reducible exact Kp.refl _ | with_reducible refine Kp.drew ?_ | with_reducible refine Kp.drewN ?_ _ | with_reducible refine Kp.alloc ?_ _ | ((with_reducible refine Kp.setCell ?_ ?_ _); rotate_left; (focus (first | omega | (simp; done) | (simp; omega)))) | with_reducible refine Kp.trans ?_ (by assumption)))) (by (repeat (first | with_reducible assumption | ((with_reducible refine Blk.newL ?_ ?_); (focus (first | (simp; done) | omega)); rfl) | with_reducible refine Blk.drew ?_ | with_reducible refine Blk.drewN ?_ _ | with_reducible refine Blk.alloc ?_ _ | ((with_reducible refine Blk.other ?_ ?_ _); rotate_left; (focus (first | with_reducible assumption | omega | (simp; done) | (simp; omega))))))), (by (repeat (first | with_reducible assumption | with_reducible exact Kp.refl _ | with_reducible refine Kp.drew ?_ | with_reducible refine Kp.drewN ?_ _ | with_reducible refine Kp.alloc ?_ _ | ((with_reducible refine Kp.setCell ?_ ?_ _); rotate_left; (focus (first | omega | (simp; done) | (simp; omega)))) | with_reducible refine Kp.trans ?_ (by assumption))))⟩
  case round =>
    obtain ⟨k, v, hk, rfl, rfl, xs, xk⟩ := hrel
    by_cases hlt : k < N
    · obtain ⟨hne, hcut⟩ := HC.out.cut k hlt
      have CC := Lib.hid (cut_run (rests k) (HC.out.short k) wr (HE.out.kp xk))
      rw [hcut] at CC
      obtain ⟨S, hS⟩ : ∃ S, rests k = S := ⟨_, rfl⟩
      obtain ⟨R, hR⟩ : ∃ R, rests (k + 1) = R := ⟨_, rfl⟩
      rw [hR] at CC
      rw [hS] at CC hne ⊢
      have HR := Lib.hid hR
      have hq0 : (S == []) = false := beq_eq_false_iff_ne.2 hne
      have XS := Lib.hid xs
      clear hcut hS hR xs
      go_wp2_with fail
      refine CC.out.mono ?_
      rintro e w2 ⟨rfl, k2⟩
      have xs2 := HC.out.kp _ _ _ _ _ k2 XS.out
      have kw2 := xk.trans k2
      have hO2 := (HC.out.out _ _ _ _ xs2).1.lt
      clear CC XS k2 xk
      go_wp2_with fail
      have hst := HC.out.step k w.heap.size v ((w2.alloc (.cells #[sv (lines k)] 9)).alloc (.cells #[.bool false] 4)) w2.heap.size hlt (Nat.le_refl _) (by (repeat (first | with_reducible assumption | with_reducible exact Kp.refl _ | with_reducible refine Kp.drew ?_ | with_reducible refine Kp.drewN ?_ _ | with_reducible refine Kp.alloc ?_ _ | ((with_reducible refine Kp.setCell ?_ ?_ _); rotate_left; (focus (first | omega | (simp; done) | (simp; omega)))) | with_reducible refine Kp.trans ?_ (by assumption)))) (HC.out.kp _ _ _ _ _ (by (repeat (first | with_reducible assumption | with_reducible exact Kp.refl _ | with_reducible refine Kp.drew ?_ | with_reducible refine Kp.drewN ?_ _ | with_reducible refine Kp.alloc ?_ _ | ((with_reducible refine Kp.setCell ?_ ?_ _); rotate_left; (focus (first | omega | (simp; done) | (simp; omega)))) | with_reducible refine Kp.trans ?_ (by assumption)))) xs2) (by (repeat (first | with_reducible assumption | ((with_reducible refine Blk.newL ?_ ?_); (focus (first | (simp; done) | omega)); rfl) | with_reducible refine Blk.drew ?_ | with_reducible refine Blk.drewN ?_ _ | with_reducible refine Blk.alloc ?_ _ | ((with_reducible refine Blk.other ?_ ?_ _); rotate_left; (focus (first | with_reducible assumption | omega | (simp; done) | (simp; omega)))))))
      refine Calls.mono (caught_read _ _ _ (fun e w3 hq => ?_) hst) ?_
      · exact ⟨.inl hq.1, hq.2.2.2 _ _ (Blk.new _ _ _)⟩
      rintro e w4 ⟨e2, w3, ⟨rfl, ⟨v2, hs2⟩, k3, hb3⟩, ⟨_, rfl, rfl⟩ | ⟨e3, _⟩⟩
      · have hbb := hb3 _ _ (Blk.new (w2.alloc (.cells #[sv (lines k)] 9)) [.bool false] 4)
        have hs4 := HC.out.bool _ _ _ _ _ _ (.bool false) hbb hs2
        have hle := kw2.size
        have k4 : Kp w (w3.setCell ⟨(w2.alloc (.cells #[sv (lines k)] 9)).heap.size, 0, none⟩ (.bool false)) := Kp.setCell k3 (by simp; omega) _
        generalize w3.setCell ⟨(w2.alloc (.cells #[sv (lines k)] 9)).heap.size, 0, none⟩ (.bool false) = w5 at hs4 k4 ⊢
        clear hs2 hst hb3 k3 hbb xs2 hle
        go_wp2_with fail
        go_roundw
        case rel => exact ⟨k + 1, v2, by omega, by rw [HR.out], by go_num, hs4, k4⟩
        case measure => simp [intOf]; omega
      · cases e3
    · obtain rfl : k = N := by omega
      obtain ⟨hob, va, vn, vc, hv⟩ := HC.out.out _ _ _ _ xs
      subst hv
      have z0 := hob.cell 0 rfl
      rw [HEND.out]
      go_wp2_with fail
      dsimp only [Exit.noGoto]
      refine bodyPost_ret (results_tmp2 (by rfl) _ _ _) (by rfl) ?_
      exact ⟨xk, _, _, rfl, xs⟩
set_option maxRecDepth 100000 in
set_option maxHeartbeats 8000000 in
theorem read_bad (w : World) (N : Nat) (lines rests : Nat → List UInt8) (St : Nat → Nat → Value → World → Prop) (hC : Chain w N lines rests St) (he : Env w) (hN : N ≤ 100000) (line rest : List UInt8) (hne : rests N ≠ []) (hct : Lib.cut (rests N) [10] = (line, rest, true))
    (hpan : ∀ O v w1 S, w.heap.size ≤ O → Kp w w1 → St N O v w1 → Blk w1 S [sv line] 9 → Calls Tryd.prog 20 #[.pointer (some ⟨O, 0, none⟩), .pointer (some ⟨S, 0, none⟩)] w1 fun e w2 => e = .panicked gone ∧ Kp w w2 ∧ ∀ B b, Blk w1 B [.bool b] 4 → Blk w2 B [.bool b] 4)
    (h0 : ∀ O w1, w.heap.size ≤ O → Kp w w1 → Blk w1 O [.slice none 0 0] 23 → St 0 O (.slice none 0 0) w1) :
    Calls Tryd.prog 7 #[sv (rests 0)] w fun e w' => e = .returned (.tuple #[.slice none 0 0, .int .i64 ((N : Int) + 1)]) ∧ Kp w w' := by
  have hmf : ∀ (fn : Fn) (first cap : Array Value) (w : World), (Instr.makeFunc fn first cap).run Tryd.prog w = .ok (.func fn first cap) w := fun _ _ _ _ => rfl
  have HE := Lib.hid he
  have HC := Lib.hid hC
  have H0 := Lib.hid h0
  have HPAN := Lib.hid hpan
  have HNE := Lib.hid hne
  have HCT := Lib.hid hct
  clear he hC h0 hpan hne hct
  obtain ⟨s0, hs0⟩ : ∃ s, rests 0 = s := ⟨_, rfl⟩
  rw [hs0]
  have HS0 := Lib.hid hs0
  clear hs0
  go_enter Tryd.func7, Tryd.ntmps7
  go_wp2_with fail
  go_step3
  go_wp2_with fail
  go_step3
  go_wp2_with fail
  go_loopw [0, 5] (fun v0 v5 wr => ∃ (k : Nat) (v : Value), k ≤ N ∧ v0 = sv (rests k) ∧ v5 = .int .i64 (k : Int) ∧ St k w.heap.size v wr ∧ Kp w wr) (fun _ v5 _ => N - (intOf v5).toNat)
  case atStart => exact ⟨0, _, Nat.zero_le _, by rw [HS0.out], rfl, H0.out _ _ (Nat.le_refl _) (by (repeat (first | with_reducible assumption | with_reducible exact Kp.refl _ | with_reducible refine Kp.drew ?_ | with_reducible refine Kp.drewN ?_ _ | with_reducible refine Kp.alloc ?_ _ | ((with_reducible refine Kp.setCell ?_ ?_ _); rotate_left; (focus (first | omega | (simp; done) | (simp; omega)))) | with_reducible refine Kp.trans ?_ (by assumption)))) (by (repeat (first | with_reducible assumption | ((with_reducible refine Blk.newL ?_ ?_); (focus (first | (simp; done) | omega)); rfl) | with_reducible refine Blk.drew ?_ | with_reducible refine Blk.drewN ?_ _ | with_reducible refine Blk.alloc ?_ _ | ((with_reducible refine Blk.other ?_ ?_ _); rotate_left; (focus (first | with_reducible assumption | omega | (simp; done) | (simp; omega))))))), (by (repeat (first | with_reducible assumption | with_reducible exact Kp.refl _ | with_reducible refine Kp.drew ?_ | with_reducible refine Kp.drewN ?_ _ | with_reducible refine Kp.alloc ?_ _ | ((with_reducible refine Kp.setCell ?_ ?_ _); rotate_left; (focus (first | omega | (simp; done) | (simp; omega)))) | with_reducible refine Kp.trans ?_ (by assumption))))⟩
  case round =>
    obtain ⟨k, v, hk, rfl, rfl, xs, xk⟩ := hrel
    by_cases hlt : k < N
    · obtain ⟨hne, hcut⟩ := HC.out.cut k hlt
      have CC := Lib.hid (cut_run (rests k) (HC.out.short k) wr (HE.out.kp xk))
      rw [hcut] at CC
      obtain ⟨S, hS⟩ : ∃ S, rests k = S := ⟨_, rfl⟩
      obtain ⟨R, hR⟩ : ∃ R, rests (k + 1) = R := ⟨_, rfl⟩
      rw [hR] at CC
      rw [hS] at CC hne ⊢
      have HR := Lib.hid hR
      have hq0 : (S == []) = false := beq_eq_false_iff_ne.2 hne
      have XS := Lib.hid xs
      clear hcut hS hR xs
      go_wp2_with fail
      refine CC.out.mono ?_
      rintro e w2 ⟨rfl, k2⟩
      have xs2 := HC.out.kp _ _ _ _ _ k2 XS.out
      have kw2 := xk.trans k2
      have hO2 := (HC.out.out _ _ _ _ xs2).1.lt
      clear CC XS k2 xk
      go_wp2_with fail
      have hst := HC.out.step k w.heap.size v ((w2.alloc (.cells #[sv (lines k)] 9)).alloc (.cells #[.bool false] 4)) w2.heap.size hlt (Nat.le_refl _) (by (repeat (first | with_reducible assumption | with_reducible exact Kp.refl _ | with_reducible refine Kp.drew ?_ | with_reducible refine Kp.drewN ?_ _ | with_reducible refine Kp.alloc ?_ _ | ((with_reducible refine Kp.setCell ?_ ?_ _); rotate_left; (focus (first | omega | (simp; done) | (simp; omega)))) | with_reducible refine Kp.trans ?_ (by assumption)))) (HC.out.kp _ _ _ _ _ (by (repeat (first | with_reducible assumption | with_reducible exact Kp.refl _ | with_reducible refine Kp.drew ?_ | with_reducible refine Kp.drewN ?_ _ | with_reducible refine Kp.alloc ?_ _ | ((with_reducible refine Kp.setCell ?_ ?_ _); rotate_left; (focus (first | omega | (simp; done) | (simp; omega)))) | with_reducible refine Kp.trans ?_ (by assumption)))) xs2) (by (repeat (first | with_reducible assumption | ((with_reducible refine Blk.newL ?_ ?_); (focus (first | (simp; done) | omega)); rfl) | with_reducible refine Blk.drew ?_ | with_reducible refine Blk.drewN ?_ _ | with_reducible refine Blk.alloc ?_ _ | ((with_reducible refine Blk.other ?_ ?_ _); rotate_left; (focus (first | with_reducible assumption | omega | (simp; done) | (simp; omega)))))))
      refine Calls.mono (caught_read _ _ _ (fun e w3 hq => ?_) hst) ?_
      · exact ⟨.inl hq.1, hq.2.2.2 _ _ (Blk.new _ _ _)⟩
      rintro e w4 ⟨e2, w3, ⟨rfl, ⟨v2, hs2⟩, k3, hb3⟩, ⟨_, rfl, rfl⟩ | ⟨e3, _⟩⟩
      · have hbb := hb3 _ _ (Blk.new (w2.alloc (.cells #[sv (lines k)] 9)) [.bool false] 4)
        have hs4 := HC.out.bool _ _ _ _ _ _ (.bool false) hbb hs2
        have hle := kw2.size
        have k4 : Kp w (w3.setCell ⟨(w2.alloc (.cells #[sv (lines k)] 9)).heap.size, 0, none⟩ (.bool false)) := Kp.setCell k3 (by simp; omega) _
        generalize w3.setCell ⟨(w2.alloc (.cells #[sv (lines k)] 9)).heap.size, 0, none⟩ (.bool false) = w5 at hs4 k4 ⊢
        clear hs2 hst hb3 k3 hbb xs2 hle
        go_wp2_with fail
        go_roundw
        case rel => exact ⟨k + 1, v2, by omega, by rw [HR.out], by go_num, hs4, k4⟩
        case measure => simp [intOf]; omega
      · cases e3
    · obtain rfl : k = N := by omega
      have CC := Lib.hid (cut_run (rests k) (HC.out.short k) wr (HE.out.kp xk))
      rw [HCT.out] at CC
      have hne := HNE.out
      obtain ⟨S, hS⟩ : ∃ S, rests k = S := ⟨_, rfl⟩
      rw [hS] at CC hne ⊢
      have hq0 : (S == []) = false := beq_eq_false_iff_ne.2 hne
      have XS := Lib.hid xs
      clear hS xs
      go_wp2_with fail
      refine CC.out.mono ?_
      rintro e w2 ⟨rfl, k2⟩
      have xs2 := HC.out.kp _ _ _ _ _ k2 XS.out
      have kw2 := xk.trans k2
      have hO2 := (HC.out.out _ _ _ _ xs2).1.lt
      clear CC XS k2 xk
      go_wp2_with fail
      have hst := HPAN.out w.heap.size v ((w2.alloc (.cells #[sv line] 9)).alloc (.cells #[.bool false] 4)) w2.heap.size (Nat.le_refl _) (by (repeat (first | with_reducible assumption | with_reducible exact Kp.refl _ | with_reducible refine Kp.drew ?_ | with_reducible refine Kp.drewN ?_ _ | with_reducible refine Kp.alloc ?_ _ | ((with_reducible refine Kp.setCell ?_ ?_ _); rotate_left; (focus (first | omega | (simp; done) | (simp; omega)))) | with_reducible refine Kp.trans ?_ (by assumption)))) (HC.out.kp _ _ _ _ _ (by (repeat (first | with_reducible assumption | with_reducible exact Kp.refl _ | with_reducible refine Kp.drew ?_ | with_reducible refine Kp.drewN ?_ _ | with_reducible refine Kp.alloc ?_ _ | ((with_reducible refine Kp.setCell ?_ ?_ _); rotate_left; (focus (first | omega | (simp; done) | (simp; omega)))) | with_reducible refine Kp.trans ?_ (by assumption)))) xs2) (by (repeat (first | with_reducible assumption | ((with_reducible refine Blk.newL ?_ ?_); (focus (first | (simp; done) | omega)); rfl) | with_reducible refine Blk.drew ?_ | with_reducible refine Blk.drewN ?_ _ | with_reducible refine Blk.alloc ?_ _ | ((with_reducible refine Blk.other ?_ ?_ _); rotate_left; (focus (first | with_reducible assumption | omega | (simp; done) | (simp; omega)))))))
      refine Calls.mono (caught_read _ _ _ (fun e w3 hq => ?_) hst) ?_
      · exact ⟨.inr hq.1, hq.2.2 _ _ (Blk.new _ _ _)⟩
      rintro e w4 ⟨e2, w3, ⟨rfl, k3, hb3⟩, ⟨e3, _⟩ | ⟨_, rfl, rfl⟩⟩
      · cases e3
      · have hle := kw2.size
        have k4 : Kp w ((w3.setCell ⟨(w2.alloc (.cells #[sv line] 9)).heap.size, 0, none⟩ (.bool true)).alloc (.cells #[] 83)) := Kp.alloc (Kp.setCell k3 (by simp; omega) _) _
        generalize (w3.setCell ⟨(w2.alloc (.cells #[sv line] 9)).heap.size, 0, none⟩ (.bool true)).alloc (.cells #[] 83) = w5 at k4 ⊢
        clear hst hb3 k3 xs2 hle
        go_wp2_with fail
        dsimp only [Exit.noGoto]
        refine bodyPost_ret (results_tmp2 (by rfl) _ _ _) (by rfl) ?_
        exact ⟨rfl, k4⟩
end Go.Proofs.YtkglkbkikgncoaaDoor
