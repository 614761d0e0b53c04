/- How much stands on each page, as a text: the document's. -/
import Derived.Test.YtfiejiokconobaaDoorOut

import Derived.Test.YtfiejiokconobaaDoorRputs

import Derived.Test.YtfiejiokconobaaDoorRline

namespace Go.Proofs.YtfiejiokconobaaDoor

open Go.RowKit

set_option maxRecDepth 100000 in
set_option maxHeartbeats 4000000 in
theorem refOutline_any (a : Option Addr) (cap : Nat) (l : List Page) (w : World) (hl : SlOk w 4 Page.cells a l.length cap l) (hg : ∀ y, y ∈ l → y.good w) (hs : Small l) :
    Calls Tryd.prog 11 #[.slice a l.length cap] w fun e w' => e = .returned (sv (outlineN l l.length)) ∧ Kp w w' := by
  have HL := Lib.hid hl
  have HG := Lib.hid hg
  have HS := Lib.hid hs
  have hl40 := hs.pages
  have HP : Hid (∀ k, k ≤ l.length → (outlineN l k).length ≤ 8000) := Lib.hid (fun k hk => by
    have := prefN_short (f := outP) (C := 200) (l := l) (fun i p hi hp => outP_short (by omega) (by have := HS.out.page hp; omega)) k hk
    unfold outlineN; omega)
  have hcl := hl.2.1
  have hcm := hl.2.2.1
  unfold maxLen at hcm
  have BA := @ba_append
  clear hl hg hs
  go_enter Tryd.func11, Tryd.ntmps11
  go_wp2_with fail
  go_loopw [3, 4] (fun v3 v4 wr => ∃ (k : Nat), k ≤ l.length ∧ v4 = .int .i64 k ∧ v3 = sv (outlineN l k) ∧ Kp w wr) (fun _ v4 _ => l.length - (intOf v4).toNat)
  case atStart => exact ⟨0, Nat.zero_le _, rfl, rfl, (by (repeat (first | with_reducible assumption | with_reducible exact Kp.refl _ | with_reducible refine Kp.drew ?_ | with_reducible refine Kp.drewN ?_ _ | with_reducible refine Kp.alloc ?_ _ | ((with_reducible refine Kp.setCell ?_ ?_ _); rotate_left; (focus (first | omega | (simp; done) | (simp; omega)))) | with_reducible refine Kp.trans ?_ (by assumption))))⟩
  case round =>
    obtain ⟨k, hk, rfl, rfl, xk⟩ := hrel
    obtain ⟨T, hTe⟩ : ∃ T, outlineN l k = T := ⟨_, rfl⟩
    rw [hTe]
    by_cases hlt : k < l.length
    · have hT := HP.out k hk
      obtain ⟨x, hx⟩ : ∃ x, l[k]? = some x := ⟨l[k]'hlt, List.getElem?_eq_getElem _⟩
      have hsn : outlineN l (k + 1) = outlineN l k ++ outP k x := prefN_succ hx
      have hmem := List.mem_of_getElem? hx
      have hpl : (pagePuts x).length ≤ 2000 := HS.out.page hmem
      have hki := kinds_ok (p := x) (by omega)
      rw [hTe] at hT hsn
      have tl := HL.out.kp xk
      rcases tl.2.2.2 with e | ⟨ga, oa, rfl, hga, _⟩
      · rw [e] at hlt; simp at hlt
      have C1 := refPuts_any (some ⟨ga, oa + k * 4, none⟩) (cap - k) [x] wr (sl_one tl hx) (by intro y hy; simp only [List.mem_singleton] at hy; subst hy; exact (HG.out _ hmem).kp xk) (by rw [putsOf_one]; omega)
      rw [putsOf_one] at C1
      have C1' := Lib.hid C1
      have C2 := Lib.hid (number_any (k : Int) (by unfold I64; omega))
      have hit := itoa_short (n := (k : Int)) (by unfold I64; omega)
      have HO : Hid (outP k x = Lib.itoa k ++ (kinds x).flatMap numL ++ [10]) := Lib.hid rfl
      obtain ⟨I, hI⟩ : ∃ I, Lib.itoa (k : Int) = I := ⟨_, rfl⟩
      rw [hI] at C2 hit HO
      have HKA := Lib.hid (fun (j : Nat) (h : j < 4) => kinds_at x h)
      have HK4 : Hid ((kinds x).length = 4) := Lib.hid rfl
      obtain ⟨KL, hKL⟩ : ∃ KL, kinds x = KL := ⟨_, rfl⟩
      rw [hKL] at HKA HK4 HO
      have HKI := Lib.hid hki
      rw [hKL] at HKI
      have hkn : ∀ j : Int, kindN (pagePuts x) j ≤ 2000 := fun j => Nat.le_trans (kindN_le _ _) hpl
      have HKN := Lib.hid hkn
      have HSN := Lib.hid hsn
      have j1 : decide ((k : Int) < (l.length : Int)) = true := decide_eq_true (by omega)
      have hc1 : ¬ 9223372036854775807 < T.length + I.length := by omega
      clear tl hx hsn C1 hI hKL hki hkn hTe
      go_wp2_with fail
      refine C1'.out.mono ?_
      rintro e w1 ⟨v1, rfl, hr1, k1⟩
      obtain ⟨pa, pc, rfl, hps⟩ := hr1.sl (fun _ => rfl)
      have xk1 := xk.trans k1
      have HPS := Lib.hid hps
      clear hr1 hps k1 C1' xk
      go_wp2_with fail
      refine (C2.out _).mono ?_
      rintro e w2 ⟨rfl, k2⟩
      have xk2 := xk1.trans k2
      have HPS2 := Lib.hid (HPS.out.kp k2)
      obtain ⟨u, rfl⟩ : ∃ u, u = w2 := ⟨_, rfl⟩
      obtain ⟨T2, hT2⟩ : ∃ T2, T ++ I = T2 := ⟨_, rfl⟩
      have hT2l : T2.length ≤ 8021 := by rw [← hT2, List.length_append]; omega
      have HT2 := Lib.hid hT2
      clear k2 C2 HPS xk1
      go_wp2_with fail
      clear hT2 hc1
      go_loopw [3, 6] (fun v3 v6 wr' => ∃ (j : Nat), j ≤ 4 ∧ v6 = .int .i64 ((j : Int) + 1) ∧ v3 = sv (T2 ++ (KL.take j).flatMap numL) ∧ Kp u wr') (fun _ v6 _ => 5 - (intOf v6).toNat)
      case atStart => exact ⟨0, by omega, rfl, by simp, (by (repeat (first | with_reducible assumption | with_reducible exact Kp.refl _ | with_reducible refine Kp.drew ?_ | with_reducible refine Kp.drewN ?_ _ | with_reducible refine Kp.alloc ?_ _ | ((with_reducible refine Kp.setCell ?_ ?_ _); rotate_left; (focus (first | omega | (simp; done) | (simp; omega)))) | with_reducible refine Kp.trans ?_ (by assumption))))⟩
      case round =>
        obtain ⟨j, hj, rfl, rfl, yk⟩ := hrel
        have hfl : ((KL.take j).flatMap numL).length ≤ 22 * 4 := Nat.le_trans (flat_short fun x hx => HKI.out x (List.mem_of_mem_take hx)) (by rw [List.length_take]; omega)
        obtain ⟨T3, hT3⟩ : ∃ T3, T2 ++ (KL.take j).flatMap numL = T3 := ⟨_, rfl⟩
        have hT3l : T3.length ≤ 8109 := by rw [← hT3, List.length_append]; omega
        rw [hT3]
        by_cases hlt2 : j < 4
        · have hka := HKA.out j hlt2
          have hsn := flat_snoc2 (f := numL) hka
          have hln := HKN.out ((j : Int) + 1)
          have CC := Lib.hid (refKind_any pa pc (pagePuts x) ((j : Int) + 1) wr (HPS2.out.kp yk) (by omega))
          have hkd : ((pagePuts x).filter fun p => p.k == (j : Int) + 1).length = kindN (pagePuts x) ((j : Int) + 1) := rfl
          obtain ⟨F, hF⟩ : ∃ F, (pagePuts x).filter (fun p => p.k == (j : Int) + 1) = F := ⟨_, rfl⟩
          rw [hF] at CC hkd
          rw [← hkd] at hsn hln
          have C3 := Lib.hid (number_any (F.length : Int) (by unfold I64; omega))
          have hns := itoa_short (n := (F.length : Int)) (by unfold I64; omega)
          have hs3 : T2 ++ (KL.take (j + 1)).flatMap numL = T3 ++ [32] ++ Lib.itoa (F.length : Int) := by rw [hsn, ← hT3]; simp [numL]
          obtain ⟨N, hN⟩ : ∃ N, Lib.itoa (F.length : Int) = N := ⟨_, rfl⟩
          rw [hN] at C3 hns hs3
          have HS3 := Lib.hid hs3
          have j2 : decide ((j : Int) + 1 < 5) = true := decide_eq_true (by omega)
          have hc1 : ¬ 9223372036854775807 < T3.length + 1 := by omega
          have hc2 : ¬ 9223372036854775807 < T3.length + 1 + N.length := by omega
          have hc3 : ¬ 9223372036854775807 < T3.length + (N.length + 1) := by omega
          clear hka hsn hkd hF hs3 hN hT3
          go_wp2_with fail
          refine CC.out.mono ?_
          rintro e w3 ⟨v3, rfl, hr3, k3⟩
          obtain ⟨fa, fc, rfl, _⟩ := hr3.sl (fun _ => rfl)
          have yk3 := yk.trans k3
          clear hr3 k3 CC
          go_wp2_with fail
          refine (C3.out _).mono ?_
          rintro e w4 ⟨rfl, k4⟩
          have yk4 := yk3.trans k4
          clear k4 C3
          go_wp2_with fail
          go_roundw
          case rel => exact ⟨j + 1, by omega, by go_num, by rw [HS3.out]; simp, yk4⟩
          case measure => simp [intOf]; omega
        · obtain rfl : j = 4 := by omega
          have j2 : decide (((4 : Nat) : Int) + 1 < 5) = false := by decide
          rw [List.take_of_length_le (by rw [HK4.out]; exact Nat.le_refl _)] at hT3
          have hend : outlineN l (k + 1) = T3 ++ [10] := by
            rw [HSN.out, HO.out, ← hT3, ← HT2.out]; simp [List.append_assoc]
          have HEND := Lib.hid hend
          have hc1 : ¬ 9223372036854775807 < T3.length + 1 := by omega
          have xk5 := xk2.trans yk
          clear hend hT3
          go_wp2_with fail
          go_roundw
          case rel => exact ⟨k + 1, by omega, by go_num, by rw [HEND.out], xk5⟩
          case measure => simp [intOf]; omega
    · obtain rfl : k = l.length := by omega
      have j1 : decide ((l.length : Int) < (l.length : Int)) = false := decide_eq_false (by omega)
      go_wp2_with fail
      (try go_ret)
      exact ⟨by rw [hTe]; rfl, xk⟩
end Go.Proofs.YtfiejiokconobaaDoor
