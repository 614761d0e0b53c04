/- Pages drawn: the document's walk. -/
import Derived.Test.YtfiejiokconobaaDoorSk3

namespace Go.Proofs.YtfiejiokconobaaDoor

open Go.RowKit

/-- When a row is drawn, as the document asks it. -/
theorem row_yes {low step : Int} {r E : Nat} (hs : 1 ≤ step) (hl : low ≤ 2251799813685248) (he : r < E ↔ r < 100 ∧ (r : Int) * min step 4503599627370496 < low) (h : r < E) (hr : 1 ≤ r) :
    step < 4503599627370496 ∧ step ≤ 4503599627370496 / (r : Int) ∧ (r : Int) * step = (r : Int) * min step 4503599627370496 := by
  obtain ⟨h1, h2⟩ := he.1 h
  have hst : step < 4503599627370496 := by
    rcases Int.lt_or_le step 4503599627370496 with c | c
    · exact c
    · rw [Int.min_eq_right c] at h2
      have : 1 * 4503599627370496 ≤ (r : Int) * 4503599627370496 := Int.mul_le_mul_of_nonneg_right (by omega) (by omega)
      omega
  rw [Int.min_eq_left (by omega)] at h2 ⊢
  refine ⟨hst, ?_, rfl⟩
  rw [Int.le_ediv_iff_mul_le (by omega), Int.mul_comm]
  omega
theorem row_no {low step : Int} {r E : Nat} (hs : 1 ≤ step) (he : r < E ↔ r < 100 ∧ (r : Int) * min step 4503599627370496 < low) (h : ¬ r < E) (hr : r < 100) (hq : step ≤ 4503599627370496 / (r : Int)) (hr1 : 1 ≤ r) :
    (r : Int) * step ≤ 4503599627370496 ∧ 0 ≤ (r : Int) * step ∧ ¬ (r : Int) * step < low := by
  rw [Int.le_ediv_iff_mul_le (by omega), Int.mul_comm] at hq
  have h0 : 0 ≤ (r : Int) * step := Int.mul_nonneg (by omega) (by omega)
  refine ⟨hq, h0, fun c => h (he.2 ⟨hr, ?_⟩)⟩
  have : (r : Int) * min step 4503599627370496 ≤ (r : Int) * step := Int.mul_le_mul_of_nonneg_left (by omega) (by omega)
  omega

set_option maxRecDepth 100000 in
set_option maxHeartbeats 4000000 in
theorem refSketch_yes (a : Option Addr) (cap : Nat) (l : List Page) (step : Int) (w : World) (hl : SlOk w 4 Page.cells a l.length cap l) (hg : ∀ y, y ∈ l → y.good w) (hs : Small l) (hst : 1 ≤ step) (hst9 : step ≤ 9223372036854775807) :
    Calls Tryd.prog 13 #[.slice a l.length cap, .int .i64 step] w fun e w' => e = .returned (sv (sketchN (min step 4503599627370496) l l.length)) ∧ Kp w w' := by
  have HL := Lib.hid hl
  have HG := Lib.hid hg
  have HS := Lib.hid hs
  have hl40 := hs.pages
  obtain ⟨st, hste⟩ : ∃ st, min step 4503599627370496 = st := ⟨_, rfl⟩
  have hst1 : 1 ≤ st := by omega
  have hst2 : st ≤ 4503599627370496 := by omega
  have HSTE := Lib.hid hste
  have HP : Hid (∀ k, k ≤ l.length → (sketchN st l k).length ≤ 84040) := Lib.hid (fun k hk => by
    have := prefN_short (f := sketchP st) (C := 2101) (l := l) (fun i p hi hp => sketchP_short (HS.out.lanes p hp) st i) k hk
    unfold sketchN; omega)
  have hcl := hl.2.1
  have hcm := hl.2.2.1
  unfold maxLen at hcm
  have BA := @ba_append
  have j0 : decide (step < 1) = false := decide_eq_false (by omega)
  clear hl hg hs hste
  go_enter Tryd.func13, Tryd.ntmps13
  go_wp2_with fail
  clear j0
  go_loopw [5, 6] (fun v5 v6 wr => ∃ (k : Nat), k ≤ l.length ∧ v6 = .int .i64 k ∧ v5 = sv (sketchN st l k) ∧ Kp w wr) (fun _ v6 _ => l.length - (intOf v6).toNat)
  case atStart => exact ⟨0, Nat.zero_le _, rfl, rfl, (by (repeat (first | with_reducible assumption | with_reducible exact Kp.refl _ | with_reducible refine Kp.drew ?_ | with_reducible refine Kp.drewN ?_ _ | with_reducible refine Kp.alloc ?_ _ | ((with_reducible refine Kp.setCell ?_ ?_ _); rotate_left; (focus (first | omega | (simp; done) | (simp; omega)))) | with_reducible refine Kp.trans ?_ (by assumption))))⟩
  case round =>
    obtain ⟨k, hk, rfl, rfl, xk⟩ := hrel
    obtain ⟨T, hTe⟩ : ∃ T, sketchN st l k = T := ⟨_, rfl⟩
    rw [hTe]
    by_cases hlt : k < l.length
    · have hT := HP.out k hk
      obtain ⟨x, hx⟩ : ∃ x, l[k]? = some x := ⟨l[k]'hlt, List.getElem?_eq_getElem _⟩
      have hsn : sketchN st l (k + 1) = sketchN st l k ++ sketchP st k x := prefN_succ hx
      have hmem := List.mem_of_getElem? hx
      have hgx := HG.out x hmem
      have hpl : (pagePuts x).length ≤ 2000 := HS.out.page hmem
      have hlan := HS.out.lanes x hmem
      rw [hTe] at hT hsn
      obtain ⟨ga, oa, rfl, r1⟩ := HL.out.low (xk.ck) (by omega)
      have R1 : Hid (∀ wq, Kp w wq → RowAt wq 4 Page.cells ga oa l) := Lib.hid (fun wq kq => by
        obtain ⟨ga', oa', hh, r⟩ := HL.out.low (kq.ck) (by omega)
        cases hh; exact r)
      have C1 := Lib.hid (foot_any x wr (hgx.kp xk) (by omega))
      have HSNP : Hid (sketchP st k x = rowsP st x (endR (footL (pagePuts x)) st) ++ [10]) := Lib.hid rfl
      have hRS := fun r (h : r ≤ 100) => rowsP_short hlan st h
      have HRN := Lib.hid (rowsP_succ st x)
      have HRL : Hid (∀ y, rowL x y = x.s.l.map (fun z => signB z.s.l y) ++ [10]) := Lib.hid (fun y => rfl)
      have HRF := Lib.hid hRS
      have hfr := footL_range (pagePuts x)
      obtain ⟨F, hF⟩ : ∃ F, pagePuts x = F := ⟨_, rfl⟩
      rw [hF] at C1 HSNP hpl hfr
      obtain ⟨low, hlow⟩ : ∃ M, footL F = M := ⟨_, rfl⟩
      rw [hlow] at hfr HSNP C1
      have HE2 := Lib.hid (fun r => @lt_endR low st hst1 hfr.1 r)
      have hER := endR_le low st
      obtain ⟨E, hE⟩ : ∃ E, endR low st = E := ⟨_, rfl⟩
      rw [hE] at HE2 HSNP hER
      obtain ⟨hfr1, hfr2⟩ := hfr
      obtain ⟨⟨la, ll, lc, ls⟩, pt, pf, pl⟩ := x
      obtain ⟨RP, hRP⟩ : ∃ RP, rowsP st ⟨⟨la, ll, lc, ls⟩, pt, pf, pl⟩ = RP := ⟨_, rfl⟩
      obtain ⟨RL, hRL⟩ : ∃ RL, rowL ⟨⟨la, ll, lc, ls⟩, pt, pf, pl⟩ = RL := ⟨_, rfl⟩
      have HR0 : Hid (RP 0 = []) := Lib.hid (by rw [← hRP]; rfl)
      rw [hRP] at HSNP HRN HRF
      rw [hRL] at HRN HRL
      simp only at HRL C1
      have d0 := r1 k _ hx 0 _ rfl
      have d1 := r1 k _ hx 1 _ rfl
      have d2 := r1 k _ hx 2 _ rfl
      have d3 := r1 k _ hx 3 _ rfl
      simp only [Nat.add_zero] at d0 d1 d2 d3
      have j1 : decide ((k : Int) < (l.length : Int)) = true := decide_eq_true (by omega)
      have HSN := Lib.hid hsn
      have HGX := Lib.hid hgx
      have HX := Lib.hid hx
      clear r1 hx hsn hTe hgx hF hRP hRL hRS hlow hE
      go_wp2_with fail
      refine C1.out.mono ?_
      rintro e w1 ⟨rfl, k1⟩
      have xk1 := xk.trans k1
      clear k1 C1 xk d0 d1 d2 d3
      go_wp2_with fail
      go_loopw [5, 8] (fun v5 v8 wr' => ∃ (r : Nat), r ≤ E ∧ v8 = .int .i64 r ∧ v5 = sv (T ++ RP r) ∧ Kp w wr') (fun _ v8 _ => 100 - (intOf v8).toNat)
      case atStart => exact ⟨0, Nat.zero_le _, rfl, by rw [HR0.out]; simp, xk1⟩
      case round =>
        clear xk1
        obtain ⟨r, hr, rfl, rfl, zk⟩ := hrel
        have d0 := R1.out wr zk k _ HX.out 0 _ rfl
        simp only [Nat.add_zero] at d0
        have hrs := HRF.out r (by omega)
        have he := HE2.out r
        have hrn := HRN.out r
        rw [← HSTE.out] at he hrn
        obtain ⟨A, hA⟩ : ∃ A, T ++ RP r = A := ⟨_, rfl⟩
        have hAl : A.length ≤ 86140 := by rw [← hA, List.length_append]; omega
        rw [hA]
        have HA := Lib.hid hA
        by_cases hre : r < E
        · have hr1 := (he.1 hre).1
          have hlow := (he.1 hre).2
          obtain ⟨y, hy⟩ : ∃ y, (r : Int) * min step 4503599627370496 = y := ⟨_, rfl⟩
          have j3 : decide ((r : Int) < 100) = true := decide_eq_true (by omega)
          by_cases hr0 : r = 0
          · have e2 : wrap64 ((r : Int) * step) = y := by rw [← hy, hr0]; simp [wrap64]
            have je : ((r : Int) == 0) = true := by rw [hr0]; rfl
            rw [hy] at hlow hrn
            have j4 : decide (y < low) = true := decide_eq_true hlow
            have HRN2 := Lib.hid hrn
            clear hy he hrn hA hr0 hlow
            go_wp2_with fail
            (try rw [e2])
            go_loopw [5, 9] (fun v5 v9 wr' => ∃ (m : Nat), m ≤ ls.length ∧ v9 = .int .i64 m ∧ v5 = sv (A ++ (ls.take m).map (fun z => signB z.s.l y)) ∧ Kp w wr') (fun _ v9 _ => ls.length - (intOf v9).toNat)
            case atStart => exact ⟨0, Nat.zero_le _, rfl, by simp, zk⟩
            case round =>
              clear zk d0
              obtain ⟨m, hm, rfl, rfl, uk⟩ := hrel
              have d0 := R1.out wr uk k _ HX.out 0 _ rfl
              simp only [Nat.add_zero] at d0
              have hsl := HGX.out.2.2.2.1.1
              simp only at hsl
              subst hsl
              have hlc1 := HGX.out.2.2.2.1.2.1
              have hlc2 := HGX.out.2.2.2.1.2.2.1
              unfold maxLen at hlc2
              simp only at hlc1 hlc2 hlan
              have hml : ((ls.take m).map (fun z => signB z.s.l y)).length ≤ 20 := by rw [List.length_map, List.length_take]; omega
              obtain ⟨V, hV⟩ : ∃ V, (ls.take m).map (fun z => signB z.s.l y) = V := ⟨_, rfl⟩
              obtain ⟨A2, hA2⟩ : ∃ A2, A ++ V = A2 := ⟨_, rfl⟩
              rw [hV] at hml
              have hA2l : A2.length ≤ 86160 := by rw [← hA2, List.length_append]; omega
              rw [hV, hA2]
              by_cases hlt3 : m < ls.length
              · obtain ⟨z, hz⟩ : ∃ z, ls[m]? = some z := ⟨ls[m]'hlt3, List.getElem?_eq_getElem _⟩
                have hgz := HGX.out.2.2.2.2 z (List.mem_of_getElem? hz)
                have hmn : (ls.take (m + 1)).map (fun z => signB z.s.l y) = V ++ [signB z.s.l y] := by rw [List.take_add_one, hz, List.map_append, hV]; rfl
                obtain ⟨gc, oc, rfl, r3⟩ := HGX.out.2.2.2.1.low (uk.ck) (by simp only; omega)
                have hzl := hgz.2.1.kp uk
                have hzn := hzl.1
                obtain ⟨zx, ⟨qa, ql, qc, qs⟩⟩ := z
                have f0 := r3 m _ hz 0 _ rfl
                have f1 := r3 m _ hz 1 _ rfl
                simp only [Nat.add_zero] at f0 f1 hmn
                simp only at hzl hzn
                subst hzn
                have C3 := Lib.hid (refAt_any zx qa qc qs y wr hzl)
                obtain ⟨S, hS⟩ : ∃ S, signB qs y = S := ⟨_, rfl⟩
                rw [hS] at C3 hmn
                have hmn2 : A ++ (ls.take (m + 1)).map (fun z => signB z.s.l y) = A2 ++ [S] := by rw [hmn, ← hA2, List.append_assoc]
                have HMN := Lib.hid hmn2
                have j5 : decide ((m : Int) < (ls.length : Int)) = true := decide_eq_true (by omega)
                have hc1 : ¬ 9223372036854775807 < A2.length + 1 := by omega
                clear r3 hz hgz hzl hmn hmn2 hS hV hA2
                go_wp2_with fail
                refine C3.out.mono ?_
                rintro e w3 ⟨rfl, k3⟩
                have uk3 := uk.trans k3
                clear k3 C3 uk
                go_wp2_with fail
                go_roundw
                case rel => exact ⟨m + 1, by omega, by go_num, by rw [HMN.out], uk3⟩
                case measure => simp [intOf]; omega
              · obtain rfl : m = ls.length := by omega
                have j5 : decide ((ls.length : Int) < (ls.length : Int)) = false := decide_eq_false (by omega)
                rw [List.take_length] at hV
                have hrl := HRL.out y
                rw [hV] at hrl
                have hnx : T ++ RP (r + 1) = A2 ++ [10] := by rw [HRN2.out, hrl, ← List.append_assoc, HA.out, ← List.append_assoc, hA2]
                have HNX := Lib.hid hnx
                have hc1 : ¬ 9223372036854775807 < A2.length + 1 := by omega
                clear hV hrl hnx hA2
                go_wp2_with fail
                go_roundw
                case rel => exact ⟨r + 1, by omega, by go_num, by rw [HNX.out], uk⟩
                case measure => simp [intOf]; omega
          · obtain ⟨hq1, hq2, hq3⟩ := row_yes (by omega) hfr2 he hre (by omega)
            rw [hy] at hq3 hlow hrn
            have hy2 : y ≤ 2251799813685248 := by omega
            have hy1 : 0 ≤ y := by rw [← hq3]; exact Int.mul_nonneg (by omega) (by omega)
            have e2 : wrap64 ((r : Int) * step) = y := by rw [hq3]; unfold wrap64; omega
            have je : ((r : Int) == 0) = false := by simp; omega
            have j6 : decide (step ≤ 4503599627370496 / (r : Int)) = true := decide_eq_true hq2
            have j4 : decide (y < low) = true := decide_eq_true hlow
            have hrz : ¬ (r : Int) = 0 := by omega
            have HRN2 := Lib.hid hrn
            clear hy he hrn hA hr0 hlow hq1 hq2 hq3
            go_wp2_with fail
            (try rw [e2])
            go_loopw [5, 9] (fun v5 v9 wr' => ∃ (m : Nat), m ≤ ls.length ∧ v9 = .int .i64 m ∧ v5 = sv (A ++ (ls.take m).map (fun z => signB z.s.l y)) ∧ Kp w wr') (fun _ v9 _ => ls.length - (intOf v9).toNat)
            case atStart => exact ⟨0, Nat.zero_le _, rfl, by simp, zk⟩
            case round =>
              clear zk d0
              obtain ⟨m, hm, rfl, rfl, uk⟩ := hrel
              have d0 := R1.out wr uk k _ HX.out 0 _ rfl
              simp only [Nat.add_zero] at d0
              have hsl := HGX.out.2.2.2.1.1
              simp only at hsl
              subst hsl
              have hlc1 := HGX.out.2.2.2.1.2.1
              have hlc2 := HGX.out.2.2.2.1.2.2.1
              unfold maxLen at hlc2
              simp only at hlc1 hlc2 hlan
              have hml : ((ls.take m).map (fun z => signB z.s.l y)).length ≤ 20 := by rw [List.length_map, List.length_take]; omega
              obtain ⟨V, hV⟩ : ∃ V, (ls.take m).map (fun z => signB z.s.l y) = V := ⟨_, rfl⟩
              obtain ⟨A2, hA2⟩ : ∃ A2, A ++ V = A2 := ⟨_, rfl⟩
              rw [hV] at hml
              have hA2l : A2.length ≤ 86160 := by rw [← hA2, List.length_append]; omega
              rw [hV, hA2]
              by_cases hlt3 : m < ls.length
              · obtain ⟨z, hz⟩ : ∃ z, ls[m]? = some z := ⟨ls[m]'hlt3, List.getElem?_eq_getElem _⟩
                have hgz := HGX.out.2.2.2.2 z (List.mem_of_getElem? hz)
                have hmn : (ls.take (m + 1)).map (fun z => signB z.s.l y) = V ++ [signB z.s.l y] := by rw [List.take_add_one, hz, List.map_append, hV]; rfl
                obtain ⟨gc, oc, rfl, r3⟩ := HGX.out.2.2.2.1.low (uk.ck) (by simp only; omega)
                have hzl := hgz.2.1.kp uk
                have hzn := hzl.1
                obtain ⟨zx, ⟨qa, ql, qc, qs⟩⟩ := z
                have f0 := r3 m _ hz 0 _ rfl
                have f1 := r3 m _ hz 1 _ rfl
                simp only [Nat.add_zero] at f0 f1 hmn
                simp only at hzl hzn
                subst hzn
                have C3 := Lib.hid (refAt_any zx qa qc qs y wr hzl)
                obtain ⟨S, hS⟩ : ∃ S, signB qs y = S := ⟨_, rfl⟩
                rw [hS] at C3 hmn
                have hmn2 : A ++ (ls.take (m + 1)).map (fun z => signB z.s.l y) = A2 ++ [S] := by rw [hmn, ← hA2, List.append_assoc]
                have HMN := Lib.hid hmn2
                have j5 : decide ((m : Int) < (ls.length : Int)) = true := decide_eq_true (by omega)
                have hc1 : ¬ 9223372036854775807 < A2.length + 1 := by omega
                clear r3 hz hgz hzl hmn hmn2 hS hV hA2
                go_wp2_with fail
                refine C3.out.mono ?_
                rintro e w3 ⟨rfl, k3⟩
                have uk3 := uk.trans k3
                clear k3 C3 uk
                go_wp2_with fail
                go_roundw
                case rel => exact ⟨m + 1, by omega, by go_num, by rw [HMN.out], uk3⟩
                case measure => simp [intOf]; omega
              · obtain rfl : m = ls.length := by omega
                have j5 : decide ((ls.length : Int) < (ls.length : Int)) = false := decide_eq_false (by omega)
                rw [List.take_length] at hV
                have hrl := HRL.out y
                rw [hV] at hrl
                have hnx : T ++ RP (r + 1) = A2 ++ [10] := by rw [HRN2.out, hrl, ← List.append_assoc, HA.out, ← List.append_assoc, hA2]
                have HNX := Lib.hid hnx
                have hc1 : ¬ 9223372036854775807 < A2.length + 1 := by omega
                clear hV hrl hnx hA2
                go_wp2_with fail
                go_roundw
                case rel => exact ⟨r + 1, by omega, by go_num, by rw [HNX.out], uk⟩
                case measure => simp [intOf]; omega
        · obtain rfl : r = E := by omega
          have hend : sketchN st l (k + 1) = A ++ [10] := by rw [HSN.out, HSNP.out, ← List.append_assoc, hA]
          have HEND := Lib.hid hend
          have hc1 : ¬ 9223372036854775807 < A.length + 1 := by omega
          clear hend hrn hA
          by_cases hr1 : r < 100
          · have j3 : decide ((r : Int) < 100) = true := decide_eq_true (by omega)
            by_cases hr0 : r = 0
            · have hlow : low = 0 := by
                have := fun h => hre (he.2 ⟨hr1, h⟩)
                rw [hr0] at this
                simp at this
                omega
              have e2 : wrap64 ((r : Int) * step) = 0 := by rw [hr0]; simp [wrap64]
              have je : ((r : Int) == 0) = true := by rw [hr0]; rfl
              have j4 : decide ((0 : Int) < low) = false := decide_eq_false (by omega)
              clear he hre hr0 hlow
              go_wp2_with fail
              go_roundw
              case rel => exact ⟨k + 1, by omega, by go_num, by rw [HEND.out], zk⟩
              case measure => simp [intOf]; omega
            · have je : ((r : Int) == 0) = false := by simp; omega
              have hrz : ¬ (r : Int) = 0 := by omega
              by_cases hq : step ≤ 4503599627370496 / (r : Int)
              · have j6 : decide (step ≤ 4503599627370496 / (r : Int)) = true := decide_eq_true hq
                obtain ⟨hy1, hy2, hy3⟩ := row_no hst he hre hr1 hq (by omega)
                obtain ⟨y, hy⟩ : ∃ y, (r : Int) * step = y := ⟨_, rfl⟩
                rw [hy] at hy1 hy2 hy3
                have e2 : wrap64 ((r : Int) * step) = y := by rw [hy]; unfold wrap64; omega
                have j4 : decide (y < low) = false := decide_eq_false hy3
                clear he hre hr0 hq hy
                go_wp2_with fail
                go_roundw
                case rel => exact ⟨k + 1, by omega, by go_num, by rw [HEND.out], zk⟩
                case measure => simp [intOf]; omega
              · have j6 : decide (step ≤ 4503599627370496 / (r : Int)) = false := decide_eq_false hq
                clear he hre hr0 hq
                go_wp2_with fail
                go_roundw
                case rel => exact ⟨k + 1, by omega, by go_num, by rw [HEND.out], zk⟩
                case measure => simp [intOf]; omega
          · have j3 : decide ((r : Int) < 100) = false := decide_eq_false (by omega)
            clear he hre
            go_wp2_with fail
            go_roundw
            case rel => exact ⟨k + 1, by omega, by go_num, by rw [HEND.out], zk⟩
            case measure => simp [intOf]; omega
    · obtain rfl : k = l.length := by omega
      have j1 : decide ((l.length : Int) < (l.length : Int)) = false := decide_eq_false (by omega)
      go_wp2_with fail
      (try go_ret)
      exact ⟨by rw [HSTE.out, hTe]; rfl, xk⟩
theorem refSketch_no (a : Option Addr) (len cap : Nat) (step : Int) (w : World) (hst : step < 1) :
    Calls Tryd.prog 13 #[.slice a len cap, .int .i64 step] w fun e w' => e = .returned (sv []) ∧ Kp w w' := by
  have j0 : decide (step < 1) = true := decide_eq_true hst
  clear hst
  go_enter Tryd.func13, Tryd.ntmps13
  go_wp2_with fail
  (try go_ret)
  exact ⟨rfl, (by (repeat (first | with_reducible assumption | with_reducible exact Kp.refl _ | with_reducible refine Kp.drew ?_ | with_reducible refine Kp.drewN ?_ _ | with_reducible refine Kp.alloc ?_ _ | ((with_reducible refine Kp.setCell ?_ ?_ _); rotate_left; (focus (first | omega | (simp; done) | (simp; omega)))) | with_reducible refine Kp.trans ?_ (by assumption))))⟩
end Go.Proofs.YtfiejiokconobaaDoor
