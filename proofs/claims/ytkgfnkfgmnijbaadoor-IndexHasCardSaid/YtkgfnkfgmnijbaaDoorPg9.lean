/- The document's pages of a mark. -/
import Derived.Test.YtkgfnkfgmnijbaaDoorOf9

namespace Go.Proofs.YtkgfnkfgmnijbaaDoor

open Go.RowKit

theorem pgs_le {len S k : Nat} (hS : 1 ≤ S) (h : k ≤ nCh len S) : k ≤ len + 1 := by
  have h2 : nCh len S ≤ len := by
    unfold nCh
    rw [← Nat.lt_add_one_iff, Nat.div_lt_iff_lt_mul (by omega)]
    have : len ≤ len * S := Nat.le_mul_of_pos_right _ hS
    rw [Nat.add_mul]; omega
  omega
theorem in_snoc {M : List Int} {i : Nat} {x : Int} (hx : M[i]? = some x) (n : Int) : decide (n ∈ M.take (i + 1)) = (decide (n ∈ M.take i) || x == n) := by
  rw [take_snoc hx]
  by_cases h : n ∈ M.take i
  · simp [h]
  · by_cases e : x = n
    · subst e; simp
    · have : ¬ n = x := fun h => e h.symm
      simp [h, e, this]
set_option maxRecDepth 100000 in
set_option maxHeartbeats 4000000 in
theorem pages_any (a ca : Option Addr) (cap ccap : Nat) (l : List Item) (cs : List Col) (S : Nat) (n : Int) (w : World) (hl : SlOk w 7 Item.cells a l.length cap l) (hc : SlOk w 6 Col.cells ca cs.length ccap cs) (h4 : l.length ≤ 100) (h6 : cs.length ≤ 60) (hS : 1 ≤ S) (hS2 : S ≤ 60) :
    Calls Tryd.prog 29 #[.slice a l.length cap, .slice ca cs.length ccap, .int .i64 (S : Int), .int .i64 n] w fun e w' => ∃ v, e = .returned v ∧ Row w' w.heap.size 3 1 enc1 v (grpF (pagesL l cs S) n) ∧ Kp w w' := by
  have hcl := hc.2.1
  have hcm := hc.2.2.1
  unfold maxLen at hcm
  have HC := Lib.hid hc
  have CP : Hid (∀ (c : Option Addr) (cc : Nat) (xs : List Col) (n : Nat) (w' : World), xs.length = n → n ≤ 60 → Kp w w' → SlOk w 6 Col.cells c n cc xs → Calls Tryd.prog 18 #[.slice a l.length cap, .slice c n cc] w' fun e w'' => ∃ v, e = .returned v ∧ Row w'' w'.heap.size 3 1 enc1 v (pageL l xs) ∧ Kp w' w'') := Lib.hid (fun c cc xs n w' hn h60 kk hx => by
    subst hn
    exact refPage_any a c cap cc l xs w' (hl.kp kk) (hx.kp kk) h4 h60)
  have HLE : Hid (∀ k, (pgs l cs S k).length ≤ 6000) := Lib.hid fun k => pgs_len h4 h6
  clear hl hc
  go_enter Tryd.func29, Tryd.ntmps29
  go_wp2_with fail
  go_loopw [9, 10] (fun v9 v10 wr => ∃ k : Nat, k ≤ nCh cs.length S ∧ v10 = .int .i64 (k : Int) ∧ Row wr w.heap.size 3 1 enc1 v9 (grpF ((List.range k).map (pgs l cs S)) n) ∧ Kp w wr) (fun _ v10 _ => nCh cs.length S - (intOf v10).toNat)
  case atStart => exact ⟨0, Nat.zero_le _, rfl, Row.nil _ _ _ _ _, (by (repeat (first | with_reducible assumption | with_reducible exact Kp.refl _ | with_reducible refine Kp.drew ?_ | with_reducible refine Kp.drewN ?_ _ | with_reducible refine Kp.alloc ?_ _ | ((with_reducible refine Kp.setCell ?_ ?_ _); rotate_left; (focus (first | omega | (simp; done) | (simp; omega)))) | with_reducible refine Kp.trans ?_ (by assumption))))⟩
  case round =>
    obtain ⟨k, hk, rfl, xr, xk⟩ := hrel
    have hk60 : k ≤ 61 := by have := pgs_le hS hk; omega
    obtain ⟨I, hI⟩ : ∃ I, k * S = I := ⟨_, rfl⟩
    have hI2 : I ≤ 61 * 60 := by rw [← hI]; exact Nat.mul_le_mul hk60 hS2
    have ew1 : IntKind.i64.wrap ((k : Int) * (S : Int)) = (I : Int) := by
      rw [show ((k : Int) * (S : Int)) = (I : Int) by rw [← hI]; simp, IntKind.wrap_i64]; omega
    have hiff := lt_nCh (len := cs.length) (k := k) hS
    rw [hI] at hiff
    have hgl := grpF_len ((List.range k).map (pgs l cs S)) n
    simp only [List.length_map, List.length_range] at hgl
    obtain ⟨gs, hgs⟩ : ∃ gs, grpF ((List.range k).map (pgs l cs S)) n = gs := ⟨_, rfl⟩
    rw [hgs] at xr hgl
    by_cases hlt : I < cs.length
    · have hkN := hiff.2 hlt
      have hkl : k * S < cs.length := by omega
      rcases HC.out.2.2.2 with e | ⟨b, off, rfl, hb, _⟩
      · rw [e] at hlt; simp at hlt
      · obtain ⟨m, hm⟩ : ∃ m, min S (cs.length - I) = m := ⟨_, rfl⟩
        have hcs : SlOk w 6 Col.cells (some ⟨b, off + k * S * 6, none⟩) (chunkL cs S k).length (ccap - k * S) (chunkL cs S k) := HC.out.part (by omega) (by omega) (by omega) (by omega)
        have hcl2 := chunkL_length hkl
        rw [chunkL_length hkl, hI, hm] at hcs
        rw [hI, hm] at hcl2
        have HM := Lib.hid (HLE.out k)
        obtain ⟨M, hM⟩ : ∃ p, pgs l cs S k = p := ⟨_, rfl⟩
        have HRW : Hid (grpF ((List.range (k + 1)).map (pgs l cs S)) n = gs ++ if n ∈ M then [(k : Int)] else []) := Lib.hid (by
          rw [List.range_succ, List.map_append, List.map_cons, List.map_nil, grpF_snoc, hgs, hM]
          simp)
        rw [hM] at HM
        have CB : Hid (∀ w', Kp w w' → Calls Tryd.prog 18 #[.slice a l.length cap, .slice (some ⟨b, off + I * 6, none⟩) m (ccap - I)] w' fun e w'' => ∃ v, e = .returned v ∧ Row w'' w'.heap.size 3 1 enc1 v M ∧ Kp w' w'') := Lib.hid (fun w' kk => by
          have h := CP.out _ _ _ m w' hcl2 (by omega) kk hcs
          unfold pgs at hM
          rw [hM] at h; exact h)
        obtain ⟨E, hE⟩ : ∃ E, I + S = E := ⟨_, rfl⟩
        have e1 : IntKind.i64.wrap ((k : Int) + 1) = (k : Int) + 1 := by rw [IntKind.wrap_i64]; omega
        have e2 : IntKind.i64.wrap (((k : Int) + 1) * (S : Int)) = (E : Int) := by
          rw [show (((k : Int) + 1) * (S : Int)) = (E : Int) by rw [← hE, ← hI, Int.add_mul]; simp, IntKind.wrap_i64]; omega
        obtain ⟨J, hJ⟩ : ∃ J, I + m = J := ⟨_, rfl⟩
        have hif : min (E : Int) (cs.length : Int) = (J : Int) := by omega
        have hm1 : 1 ≤ m := by omega
        have hle : I ≤ cs.length := by omega
        have hle2 : I ≤ ccap := by omega
        have hne : ¬ ccap = I := by omega
        have hn0 : ¬ ccap = 0 := by omega
        have eJ : J - I = m := by omega
        have hJ1 : J ≤ ccap := by omega
        have hJ2 : I ≤ J := by omega
        have j1 : decide ((I : Int) < (cs.length : Int)) = true := decide_eq_true (by omega)
        have HKN := Lib.hid hkN
        have HXR := Lib.hid xr
        clear hcs hcl2 hM hm hE hI hiff hkN hkl xr hgs CP HC HLE hk hI2
        go_wp2_with fail
        refine (CB.out _ xk).mono ?_
        rintro e w1 ⟨v1, rfl, hr1, k1⟩
        have xk1 := xk.trans k1
        have xr1 := HXR.out.kp k1
        obtain ⟨va, vc, rfl, hs1⟩ := hr1.sl (fun _ => rfl)
        have hvl := hs1.2.1
        have hvm := hs1.2.2.1
        unfold maxLen at hvm
        have HS1 := Lib.hid hs1
        have HX1 := Lib.hid xr1
        clear hr1 hs1 xk k1 HXR xr1 ew1 e2 hif hle hle2 hne hn0 eJ hJ1 hJ2
        go_wp2_with fail
        go_loopw [12, 13] (fun v12 v13 wr' => ∃ i : Nat, i ≤ M.length ∧ v13 = .int .i64 (i : Int) ∧ v12 = .bool (decide (n ∈ M.take i)) ∧ Kp w1 wr') (fun _ v13 _ => M.length - (intOf v13).toNat)
        case atStart => exact ⟨0, Nat.zero_le _, rfl, by simp, (by (repeat (first | with_reducible assumption | with_reducible exact Kp.refl _ | with_reducible refine Kp.drew ?_ | with_reducible refine Kp.drewN ?_ _ | with_reducible refine Kp.alloc ?_ _ | ((with_reducible refine Kp.setCell ?_ ?_ _); rotate_left; (focus (first | omega | (simp; done) | (simp; omega)))) | with_reducible refine Kp.trans ?_ (by assumption))))⟩
        case round =>
          obtain ⟨i, hi, rfl, rfl, yk⟩ := hrel
          by_cases hlt2 : i < M.length
          · obtain ⟨x, hx⟩ : ∃ x, M[i]? = some x := ⟨M[i], List.getElem?_eq_getElem hlt2⟩
            obtain ⟨ga, oa, rfl, hga, r1⟩ := entsOfSl (HS1.out.kp yk) (by omega)
            have d0 := r1 i _ hx 0 _ rfl
            simp only [Nat.add_zero, Nat.mul_one] at d0
            have hsn := in_snoc hx n
            have jl : decide ((i : Int) < (M.length : Int)) = true := decide_eq_true (by omega)
            have hm6 := HM.out
            obtain ⟨t, ht⟩ : ∃ t, decide (n ∈ M.take i) = t := ⟨_, rfl⟩
            rw [ht] at hsn ⊢
            have HSN := Lib.hid hsn
            clear r1 hx hsn ht
            cases t with
            | true =>
              go_wp2_with fail
              exact ⟨⟨i + 1, by omega, by go_num, by rw [HSN.out]; rfl, (by (repeat (first | with_reducible assumption | with_reducible exact Kp.refl _ | with_reducible refine Kp.drew ?_ | with_reducible refine Kp.drewN ?_ _ | with_reducible refine Kp.alloc ?_ _ | ((with_reducible refine Kp.setCell ?_ ?_ _); rotate_left; (focus (first | omega | (simp; done) | (simp; omega)))) | with_reducible refine Kp.trans ?_ (by assumption))))⟩, by simp [intOf]; omega⟩
            | false =>
              obtain ⟨y, hy⟩ : ∃ y, (x == n) = y := ⟨_, rfl⟩
              rw [hy] at HSN
              go_wp2_with fail
              exact ⟨⟨i + 1, by omega, by go_num, by rw [HSN.out]; rfl, (by (repeat (first | with_reducible assumption | with_reducible exact Kp.refl _ | with_reducible refine Kp.drew ?_ | with_reducible refine Kp.drewN ?_ _ | with_reducible refine Kp.alloc ?_ _ | ((with_reducible refine Kp.setCell ?_ ?_ _); rotate_left; (focus (first | omega | (simp; done) | (simp; omega)))) | with_reducible refine Kp.trans ?_ (by assumption))))⟩, by simp [intOf]; omega⟩
          · obtain rfl : i = M.length := by omega
            have jl : decide ((M.length : Int) < (M.length : Int)) = false := decide_eq_false (by omega)
            have HX2 := Lib.hid (HX1.out.kp yk)
            have yk2 := xk1.trans yk
            rw [List.take_length]
            by_cases hin : n ∈ M
            · have hd : decide (n ∈ M) = true := decide_eq_true hin
              have HR2 := HRW.out
              rw [if_pos hin] at HR2
              have HR3 := Lib.hid HR2
              rw [hd]
              clear hin hd HR2 HX1
              go_wp2_with (at_builtin; refine rowAppend ?gd (.tmp 52) (.tmp 54) 23 ?ho Tryd.underlying23 infoInt9 rfl (by decide) (HX2.out.alloc _) ?hs (y := (k : Int)) rfl (enc1_one _) (Blk.new _ _ 3) ?hx ?hl ?hb ?hz ?_; (case gd => rfl); (case ho => rfl); (case hs => rfl); (case hx => rfl); (case hl => unfold maxLen; omega); (case hb => omega); (case hz => have := yk2.size; simp; omega); intro v' w' hr' hkk _ hsz _)
              go_roundw
              case rel => exact ⟨k + 1, HKN.out, by go_num, by rw [HR3.out]; exact hr', hkk (Nat.le_refl _) (yk2.alloc _)⟩
              case measure => have := HKN.out; simp [intOf]; omega
            · have hd : decide (n ∈ M) = false := decide_eq_false hin
              have HR2 := HRW.out
              rw [if_neg hin, List.append_nil] at HR2
              have HR3 := Lib.hid HR2
              rw [hd]
              clear hin hd HR2 HX1
              go_wp2_with fail
              go_roundw
              case rel => exact ⟨k + 1, HKN.out, by go_num, by rw [HR3.out]; exact HX2.out, yk2⟩
              case measure => have := HKN.out; simp [intOf]; omega
    · obtain rfl : k = nCh cs.length S := by
        have : ¬ k < nCh cs.length S := fun h => hlt (hiff.1 h)
        omega
      have j1 : decide ((I : Int) < (cs.length : Int)) = false := decide_eq_false (by omega)
      have HX := Lib.hid xr
      have HG : Hid (grpF (pagesL l cs S) n = gs) := Lib.hid hgs
      clear xr hgs hI hiff
      go_wp2_with fail
      (try go_ret)
      exact ⟨_, rfl, by rw [HG.out]; exact HX.out, xk⟩
end Go.Proofs.YtkgfnkfgmnijbaaDoor
