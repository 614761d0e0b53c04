/- All things of pages, and those of a kind: the document's. -/
import Derived.Test.YtfiejiokconobaaDoorColl

import Derived.Test.YtfiejiokconobaaDoorAppS

namespace Go.Proofs.YtfiejiokconobaaDoor

open Go.RowKit

theorem put_one : ∀ y, ∀ u ∈ Put.cells y, u.oneCell' = true := fun y u hu => by
  simp only [Put.cells, List.mem_cons, List.not_mem_nil, or_false] at hu
  rcases hu with rfl | rfl | rfl | rfl | rfl <;> rfl
set_option maxRecDepth 100000 in
set_option maxHeartbeats 4000000 in
theorem refPuts_any (a : Option Addr) (cap : Nat) (l : List Page) (w : World) (hl : SlOk w 4 Page.cells a l.length cap l) (hg : ∀ y, y ∈ l → y.good w) (hN : (putsOf l).length ≤ 1000000) :
    Calls Tryd.prog 16 #[.slice a l.length cap] w fun e w' => ∃ v, e = .returned v ∧ Row w' w.heap.size 30 5 Put.cells v (putsOf l) ∧ Kp w w' := by
  have HL := Lib.hid hl
  have HG := Lib.hid hg
  have HN := Lib.hid hN
  have hcl := hl.2.1
  have hcm := hl.2.2.1
  unfold maxLen at hcm
  clear hl hg hN
  go_enter Tryd.func16, Tryd.ntmps16
  go_wp2_with fail
  go_loopw [3, 4] (fun v3 v4 wr => ∃ (k : Nat), k ≤ l.length ∧ v4 = .int .i64 k ∧ Row wr w.heap.size 30 5 Put.cells v3 ((l.take k).flatMap pagePuts) ∧ Kp w wr) (fun _ v4 _ => l.length - (intOf v4).toNat)
  case atStart => exact ⟨0, Nat.zero_le _, rfl, Row.nil _ _ _ _ _, (by (repeat (first | with_reducible assumption | with_reducible exact Kp.refl _ | with_reducible refine Kp.drew ?_ | with_reducible refine Kp.drewN ?_ _ | with_reducible refine Kp.alloc ?_ _ | ((with_reducible refine Kp.setCell ?_ ?_ _); rotate_left; (focus (first | omega | (simp; done) | (simp; omega)))) | with_reducible refine Kp.trans ?_ (by assumption))))⟩
  case round =>
    obtain ⟨k, hk, rfl, xr, xk⟩ := hrel
    by_cases hlt : k < l.length
    · obtain ⟨x, hx⟩ : ∃ x, l[k]? = some x := ⟨l[k]'hlt, List.getElem?_eq_getElem _⟩
      have hgx := HG.out x (List.mem_of_getElem? hx)
      have hsn := flat_snoc2 (f := pagePuts) hx
      have hct := flat_cut (f := pagePuts) hx
      obtain ⟨ga, oa, rfl, r1⟩ := HL.out.low (xk.ck) (by omega)
      have R1 : Hid (∀ wq, Kp w wq → RowAt wq 4 Page.cells ga oa l) := Lib.hid (fun wq kq => by
        obtain ⟨ga', oa', hh, r⟩ := HL.out.low (kq.ck) (by omega)
        cases hh; exact r)
      obtain ⟨⟨la, ll, lc, ls⟩, pt, pf, pl⟩ := x
      have j1 : decide ((k : Int) < (l.length : Int)) = true := decide_eq_true (by omega)
      obtain ⟨T, hT⟩ : ∃ T, (l.take k).flatMap pagePuts = T := ⟨_, rfl⟩
      rw [hT] at xr hsn hct
      have HX := Lib.hid hx
      have XR := Lib.hid xr
      have HSN := Lib.hid hsn
      have HCT := Lib.hid hct
      have HGX := Lib.hid hgx
      clear r1 hx xr hsn hct hgx hT
      go_wp2_with fail
      go_loopw [3, 5] (fun v3 v5 wr' => ∃ (m : Nat), m ≤ ls.length ∧ v5 = .int .i64 m ∧ Row wr' w.heap.size 30 5 Put.cells v3 (T ++ (ls.take m).flatMap fun x => x.s.l) ∧ Kp w wr') (fun _ v5 _ => ls.length - (intOf v5).toNat)
      case atStart => exact ⟨0, Nat.zero_le _, rfl, by simpa using XR.out, xk⟩
      case round =>
        clear XR xk
        obtain ⟨m, hm, rfl, yr, yk⟩ := hrel
        have d0 := R1.out wr yk k _ HX.out 0 _ rfl
        simp only [Nat.add_zero] at d0
        have hsl := HGX.out.2.2.2.1.1
        have hlc1 := HGX.out.2.2.2.1.2.1
        have hlc2 := HGX.out.2.2.2.1.2.2.1
        unfold maxLen at hlc2
        simp only at hsl hlc1 hlc2
        subst hsl
        by_cases hlt2 : m < ls.length
        · obtain ⟨y, hy⟩ : ∃ y, ls[m]? = some y := ⟨ls[m]'hlt2, List.getElem?_eq_getElem _⟩
          have hgy := HGX.out.2.2.2.2 y (List.mem_of_getElem? hy)
          have hsn := flat_snoc2 (f := fun x : Lane => x.s.l) hy
          have hct := flat_cut (f := fun x : Lane => x.s.l) hy
          obtain ⟨gb, ob, rfl, r2⟩ := HGX.out.2.2.2.1.low (yk.ck) (by simp only; omega)
          obtain ⟨yx, ⟨qa, ql, qc, qs⟩⟩ := y
          have f1 := r2 m _ hy 1 _ rfl
          simp only at f1
          have j2 : decide ((m : Int) < (ls.length : Int)) = true := decide_eq_true (by omega)
          have hql := hgy.2.1.1
          simp only at hql
          subst hql
          have hps := hgy.2.1.kp yk
          simp only at hsn hct hps
          obtain ⟨T2, hT2⟩ : ∃ T2, (ls.take m).flatMap (fun x => x.s.l) = T2 := ⟨_, rfl⟩
          rw [hT2] at yr hsn hct
          have hlen : T.length + T2.length + qs.length ≤ 1000000 := by
            have h := HN.out
            unfold putsOf at h
            rw [HCT.out] at h
            unfold pagePuts at h
            simp only at h
            rw [hct] at h
            simp only [List.length_append] at h
            omega
          have YR := Lib.hid yr
          have HSN2 := Lib.hid hsn
          have HPS := Lib.hid hps
          clear r2 hy yr hsn hct hgy hT2 hps
          go_wp2_with (at_builtin; refine rowAppendSL ?gd (.tmp 22) (.tmp 31) 33 ?ho Tryd.underlying33 infoPut rfl (by decide) (fun _ => rfl) YR.out ?hs HPS.out ?hx put_one ?hl ?hb yk.size ?_; (case gd => rfl); (case ho => rfl); (case hs => rfl); (case hx => rfl); (case hl => unfold maxLen; simp only [List.length_append]; omega); (case hb => simp only [List.length_append]; omega); intro v' w' hr' hkk hsz)
          go_roundw
          case rel => exact ⟨m + 1, by omega, by go_num, by rw [HSN2.out, ← List.append_assoc]; exact hr', hkk (Nat.le_refl _) yk⟩
          case measure => simp [intOf]; omega
        · obtain rfl : m = ls.length := by omega
          have j2 : decide ((ls.length : Int) < (ls.length : Int)) = false := decide_eq_false (by omega)
          rw [List.take_length] at yr
          have hend := HSN.out
          unfold pagePuts at hend
          simp only at hend
          have HEND : Hid (Row wr w.heap.size 30 5 Put.cells _ ((l.take (k + 1)).flatMap pagePuts)) := Lib.hid (by rw [HSN.out]; exact yr)
          clear yr hend
          go_wp2_with fail
          go_roundw
          case rel => exact ⟨k + 1, by omega, by go_num, HEND.out, yk⟩
          case measure => simp [intOf]; omega
    · obtain rfl : k = l.length := by omega
      have j1 : decide ((l.length : Int) < (l.length : Int)) = false := decide_eq_false (by omega)
      rw [List.take_length] at xr
      have XR := Lib.hid xr
      clear xr
      go_wp2_with fail
      (try go_ret)
      exact ⟨_, rfl, XR.out, xk⟩
set_option maxRecDepth 100000 in
set_option maxHeartbeats 4000000 in
theorem refKind_any (a : Option Addr) (cap : Nat) (l : List Put) (kd : Int) (w : World) (hl : SlOk w 5 Put.cells a l.length cap l) (hN : l.length ≤ 1000000) :
    Calls Tryd.prog 27 #[.slice a l.length cap, .int .i64 kd] w fun e w' => ∃ v, e = .returned v ∧ Row w' w.heap.size 30 5 Put.cells v (l.filter fun p => p.k == kd) ∧ Kp w w' := by
  have HL := Lib.hid hl
  have hcl := hl.2.1
  have hcm := hl.2.2.1
  unfold maxLen at hcm
  clear hl
  go_enter Tryd.func27, Tryd.ntmps27
  go_wp2_with fail
  go_loopw [5, 6] (fun v5 v6 wr => ∃ (k : Nat), k ≤ l.length ∧ v6 = .int .i64 k ∧ Row wr w.heap.size 30 5 Put.cells v5 ((l.take k).filter fun p => p.k == kd) ∧ Kp w wr) (fun _ v6 _ => l.length - (intOf v6).toNat)
  case atStart => exact ⟨0, Nat.zero_le _, rfl, Row.nil _ _ _ _ _, (by (repeat (first | with_reducible assumption | with_reducible exact Kp.refl _ | with_reducible refine Kp.drew ?_ | with_reducible refine Kp.drewN ?_ _ | with_reducible refine Kp.alloc ?_ _ | ((with_reducible refine Kp.setCell ?_ ?_ _); rotate_left; (focus (first | omega | (simp; done) | (simp; omega)))) | with_reducible refine Kp.trans ?_ (by assumption))))⟩
  case round =>
    obtain ⟨k, hk, rfl, xr, xk⟩ := hrel
    by_cases hlt : k < l.length
    · obtain ⟨x, hx⟩ : ∃ x, l[k]? = some x := ⟨l[k]'hlt, List.getElem?_eq_getElem _⟩
      have htk : l.take (k + 1) = l.take k ++ [x] := by rw [List.take_add_one, hx]; rfl
      have hfl : (l.take (k + 1)).filter (fun p => p.k == kd) = (l.take k).filter (fun p => p.k == kd) ++ if x.k = kd then [x] else [] := by
        rw [htk, List.filter_append]
        by_cases h : x.k = kd
        · simp [h]
        · simp [h]
      have hle : ((l.take k).filter (fun p => p.k == kd)).length ≤ 1000000 - 1 := by
        have h1 := List.length_filter_le (fun p : Put => p.k == kd) (l.take k)
        rw [List.length_take] at h1
        omega
      obtain ⟨ga, oa, rfl, r1⟩ := HL.out.low (xk.ck) (by omega)
      obtain ⟨x0, x1, x2, x3, x4⟩ := x
      have d0 := r1 k _ hx 0 _ rfl
      have d1 := r1 k _ hx 1 _ rfl
      have d2 := r1 k _ hx 2 _ rfl
      have d3 := r1 k _ hx 3 _ rfl
      have d4 := r1 k _ hx 4 _ rfl
      simp only [Nat.add_zero] at d0 d1 d2 d3 d4 hfl
      have j1 : decide ((k : Int) < (l.length : Int)) = true := decide_eq_true (by omega)
      obtain ⟨T, hT⟩ : ∃ T, (l.take k).filter (fun p => p.k == kd) = T := ⟨_, rfl⟩
      rw [hT] at xr hfl hle
      have XR := Lib.hid xr
      by_cases h : x0 = kd
      · subst h
        rw [if_pos rfl] at hfl
        have HFL := Lib.hid hfl
        clear r1 hx xr htk hfl hT
        go_wp2_with (at_builtin; refine rowAppend ?gd (.tmp 20) (.tmp 25) 33 ?ho Tryd.underlying33 infoPut rfl (by decide) (XR.out.alloc _) ?hs (y := ⟨x0, x1, x2, x3, x4⟩) rfl (put_one _) (Blk.new _ _ 30) ?hx ?hl ?hb ?hz ?_; (case gd => rfl); (case ho => rfl); (case hs => rfl); (case hx => rfl); (case hl => unfold maxLen; omega); (case hb => omega); (case hz => have := xk.size; simp; omega); intro v' w' hr' hkk _ hsz _)
        go_roundw
        case rel => exact ⟨k + 1, by omega, by go_num, by rw [HFL.out]; exact hr', hkk (Nat.le_refl _) (xk.alloc _)⟩
        case measure => simp [intOf]; omega
      · rw [if_neg h, List.append_nil] at hfl
        have HFL := Lib.hid hfl
        have h' : (x0 == kd) = false := by simpa using h
        clear r1 hx xr htk hfl hT
        go_wp2_with fail
        go_roundw
        case rel => exact ⟨k + 1, by omega, by go_num, by rw [HFL.out]; exact XR.out, xk⟩
        case measure => simp [intOf]; omega
    · obtain rfl : k = l.length := by omega
      have j1 : decide ((l.length : Int) < (l.length : Int)) = false := decide_eq_false (by omega)
      rw [List.take_length] at xr
      have XR := Lib.hid xr
      clear xr
      go_wp2_with fail
      (try go_ret)
      exact ⟨_, rfl, XR.out, xk⟩
end Go.Proofs.YtfiejiokconobaaDoor
