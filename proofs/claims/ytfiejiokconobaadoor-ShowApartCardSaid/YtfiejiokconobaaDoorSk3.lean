/- Pages drawn: what it is, and the program's walk. -/
import Derived.Test.YtfiejiokconobaaDoorSk2

import Derived.Test.YtfiejiokconobaaDoorOut

namespace Go.Proofs.YtfiejiokconobaaDoor

open Go.RowKit

theorem ne_sz {a b : Nat} (h : a < b) : b ≠ a := by omega
/-- How many rows are drawn. -/
def endR (low st : Int) : Nat := (min 100 ((low + st - 1) / st)).toNat
theorem lt_endR {low st : Int} (hs : 1 ≤ st) (_hl : 0 ≤ low) {r : Nat} : r < endR low st ↔ r < 100 ∧ (r : Int) * st < low := by
  unfold endR
  have h1 : (r : Int) + 1 ≤ (low + st - 1) / st ↔ ((r : Int) + 1) * st ≤ low + st - 1 := Int.le_ediv_iff_mul_le (by omega)
  rw [Int.add_mul, Int.one_mul] at h1
  obtain ⟨q, hq⟩ : ∃ q, (low + st - 1) / st = q := ⟨_, rfl⟩
  obtain ⟨z, hz⟩ : ∃ z, (r : Int) * st = z := ⟨_, rfl⟩
  rw [hq, hz] at h1
  rw [hq, hz]
  omega
theorem endR_le (low st : Int) : endR low st ≤ 100 := by unfold endR; omega
def rowL (p : Page) (y : Int) : List UInt8 := p.s.l.map (fun x => signB x.s.l y) ++ [10]
def rowsP (st : Int) (p : Page) (r : Nat) : List UInt8 := (List.range r).flatMap fun (i : Nat) => rowL p ((i : Int) * st)
theorem rowsP_succ (st : Int) (p : Page) (r : Nat) : rowsP st p (r + 1) = rowsP st p r ++ rowL p ((r : Int) * st) := by
  unfold rowsP; rw [List.range_succ, List.flatMap_append]; simp
def sketchP (st : Int) (_i : Nat) (p : Page) : List UInt8 := rowsP st p (endR (footL (pagePuts p)) st) ++ [10]
def sketchN (st : Int) (l : List Page) (k : Nat) : List UInt8 := prefN (sketchP st) l k
theorem rowL_short {p : Page} (h : p.s.l.length ≤ 20) (y : Int) : (rowL p y).length ≤ 21 := by unfold rowL; rw [List.length_append, List.length_map]; simp; omega
theorem rowsP_short {p : Page} (h : p.s.l.length ≤ 20) (st : Int) {r : Nat} (hr : r ≤ 100) : (rowsP st p r).length ≤ 2100 := by
  unfold rowsP
  have := flat_bound (C := 21) (f := fun (i : Nat) => rowL p ((i : Int) * st)) (l := List.range r) fun i _ => rowL_short h _
  rw [List.length_range] at this
  omega
theorem sketchP_short {p : Page} (h : p.s.l.length ≤ 20) (st : Int) (i : Nat) : (sketchP st i p).length ≤ 2101 := by
  unfold sketchP
  have := rowsP_short h st (endR_le (footL (pagePuts p)) st)
  rw [List.length_append, List.length_singleton]; omega

set_option maxRecDepth 100000 in
set_option maxHeartbeats 4000000 in
theorem sketch_yes (a : Option Addr) (cap : Nat) (l : List Page) (step : Int) (w : World) (he : Env w) (hl : SlOk w 4 Page.cells a l.length cap l) (hg : ∀ y, y ∈ l → y.good w) (hs : Small l) (hst : 1 ≤ step) :
    Calls Tryd.prog 12 #[.slice a l.length cap, .int .i64 step] w fun e w' => e = .returned (sv (sketchN (min step 4503599627370496) l l.length)) ∧ Kp w w' := by
  have HE := Lib.hid he
  have HL := Lib.hid hl
  have HG := Lib.hid hg
  have HS := Lib.hid hs
  have hl40 := hs.pages
  obtain ⟨st, hste⟩ : ∃ st, min step 4503599627370496 = st := ⟨_, rfl⟩
  have hst1 : 1 ≤ st := by omega
  have hst2 : st ≤ 4503599627370496 := by omega
  have HSTE := Lib.hid hste
  have HP : Hid (∀ k, k ≤ l.length → (sketchN st l k).length ≤ 84040) := Lib.hid (fun k hk => by
    have := prefN_short (f := sketchP st) (C := 2101) (l := l) (fun i p hi hp => sketchP_short (HS.out.lanes p hp) st i) k hk
    unfold sketchN; omega)
  have hcl := hl.2.1
  have hcm := hl.2.2.1
  unfold maxLen at hcm
  have j0 : decide (step < 1) = false := decide_eq_false (by omega)
  clear he hl hg hs hst
  go_enter Tryd.func12, Tryd.ntmps12
  go_wp2_with fail
  clear hste j0
  go_loopw [23] (fun v23 wr => ∃ (k : Nat), k ≤ l.length ∧ v23 = .int .i64 k ∧ Bld w.heap.size w.heap.size (sketchN st l k) wr ∧ Kp w wr) (fun v23 _ => l.length - (intOf v23).toNat)
  case atStart => exact ⟨0, Nat.zero_le _, rfl, Bld.new w, (by (repeat (first | with_reducible assumption | with_reducible exact Kp.refl _ | with_reducible refine Kp.drew ?_ | with_reducible refine Kp.drewN ?_ _ | with_reducible refine Kp.alloc ?_ _ | ((with_reducible refine Kp.setCell ?_ ?_ _); rotate_left; (focus (first | omega | (simp; done) | (simp; omega)))) | with_reducible refine Kp.trans ?_ (by assumption))))⟩
  case round =>
    obtain ⟨k, hk, rfl, xb, xk⟩ := hrel
    have hb := xb.lt
    by_cases hlt : k < l.length
    · have hT := HP.out k hk
      obtain ⟨x, hx⟩ : ∃ x, l[k]? = some x := ⟨l[k]'hlt, List.getElem?_eq_getElem _⟩
      have hsn : sketchN st l (k + 1) = sketchN st l k ++ sketchP st k x := prefN_succ hx
      have hmem := List.mem_of_getElem? hx
      have hgx := HG.out x hmem
      have hpl : (pagePuts x).length ≤ 2000 := HS.out.page hmem
      have hlan := HS.out.lanes x hmem
      obtain ⟨T, hTe⟩ : ∃ T, sketchN st l k = T := ⟨_, rfl⟩
      rw [hTe] at xb hT hsn
      have tl := HL.out.kp xk
      rcases tl.2.2.2 with e | ⟨ga, oa, rfl, hga, r1⟩
      · rw [e] at hlt; simp at hlt
      have C1 : Hid (∀ (w' : World), Kp w w' → Calls Tryd.prog 28 #[.slice (some ⟨ga, oa + k * 4, none⟩) 1 (cap - k)] w' fun e w'' => ∃ v, e = .returned v ∧ Row w'' w'.heap.size 30 5 Put.cells v (pagePuts x) ∧ Kp w' w'') := Lib.hid (fun w' k' => by
        have h := puts_any (some ⟨ga, oa + k * 4, none⟩) (cap - k) [x] w' (sl_one (HL.out.kp k') hx) (hgx.kp k').one (by rw [putsOf_onlyOne]; omega)
        rw [putsOf_onlyOne] at h
        exact h)
      have HSNP : Hid (sketchP st k x = rowsP st x (endR (footL (pagePuts x)) st) ++ [10]) := Lib.hid rfl
      have hRS := fun r (h : r ≤ 100) => rowsP_short hlan st h
      have HRN := Lib.hid (rowsP_succ st x)
      have HRL : Hid (∀ y, rowL x y = x.s.l.map (fun z => signB z.s.l y) ++ [10]) := Lib.hid (fun y => rfl)
      have HRF := Lib.hid hRS
      obtain ⟨F, hF⟩ : ∃ F, pagePuts x = F := ⟨_, rfl⟩
      rw [hF] at C1 HSNP hpl
      obtain ⟨⟨la, ll, lc, ls⟩, pt, pf, pl⟩ := x
      obtain ⟨RP, hRP⟩ : ∃ RP, rowsP st ⟨⟨la, ll, lc, ls⟩, pt, pf, pl⟩ = RP := ⟨_, rfl⟩
      obtain ⟨RL, hRL⟩ : ∃ RL, rowL ⟨⟨la, ll, lc, ls⟩, pt, pf, pl⟩ = RL := ⟨_, rfl⟩
      have HR0 : Hid (RP 0 = []) := Lib.hid (by rw [← hRP]; rfl)
      rw [hRP] at HSNP HRN HRF
      rw [hRL] at HRN HRL
      simp only at HRL
      have d0 := r1 k _ hx 0 _ rfl
      have d1 := r1 k _ hx 1 _ rfl
      have d2 := r1 k _ hx 2 _ rfl
      have d3 := r1 k _ hx 3 _ rfl
      simp only [Nat.add_zero] at d0 d1 d2 d3
      have j1 : decide ((k : Int) < (l.length : Int)) = true := decide_eq_true (by omega)
      have XB := Lib.hid xb
      have HSN := Lib.hid hsn
      have HGX := Lib.hid hgx
      clear tl r1 hx hsn xb hTe hgx hF hRP hRL hRS
      obtain ⟨wa, rfl⟩ : ∃ u, u = wr := ⟨_, rfl⟩
      go_wp2_with fail
      refine (C1.out _ (by (repeat (first | with_reducible assumption | with_reducible exact Kp.refl _ | with_reducible refine Kp.drew ?_ | with_reducible refine Kp.drewN ?_ _ | with_reducible refine Kp.alloc ?_ _ | ((with_reducible refine Kp.setCell ?_ ?_ _); rotate_left; (focus (first | omega | (simp; done) | (simp; omega)))) | with_reducible refine Kp.trans ?_ (by assumption))))).mono ?_
      rintro e w1 ⟨v, rfl, hr, k1⟩
      have bp : Blk w1 wa.heap.size [.slice la ll lc, .int .i64 pt, .int .i64 pf, .int .i64 pl] 39 := Blk.kp (by (repeat (first | with_reducible assumption | ((with_reducible refine Blk.newL ?_ ?_); (focus (first | (simp; done) | omega)); rfl) | with_reducible refine Blk.drew ?_ | with_reducible refine Blk.drewN ?_ _ | with_reducible refine Blk.alloc ?_ _ | ((with_reducible refine Blk.other ?_ ?_ _); rotate_left; (focus (first | with_reducible assumption | omega | (simp; done) | (simp; omega))))))) k1
      have kw1 : Kp wa w1 := Kp.trans (by (repeat (first | with_reducible assumption | with_reducible exact Kp.refl _ | with_reducible refine Kp.drew ?_ | with_reducible refine Kp.drewN ?_ _ | with_reducible refine Kp.alloc ?_ _ | ((with_reducible refine Kp.setCell ?_ ?_ _); rotate_left; (focus (first | omega | (simp; done) | (simp; omega)))) | with_reducible refine Kp.trans ?_ (by assumption)))) k1
      obtain ⟨fa, fc, rfl, hfs⟩ := hr.sl (fun _ => rfl)
      have HFS := Lib.hid hfs
      have hfc := hfs.2.1
      have hfm := hfs.2.2.1
      unfold maxLen at hfm
      have xb1 := XB.out.kp kw1
      have xk1 := xk.trans kw1
      clear hr hfs k1 C1 xk d0 d1 d2 d3
      obtain ⟨wb, rfl⟩ : ∃ u, u = w1 := ⟨_, rfl⟩
      go_wp2_with fail
      go_loopw [8, 35] (fun v8 v35 wr' => ∃ (q : Nat), q ≤ F.length ∧ v35 = .int .i64 q ∧ v8 = .int .i64 (footL (F.take q)) ∧ Kp wb wr') (fun _ v35 _ => F.length - (intOf v35).toNat)
      case atStart => exact ⟨0, Nat.zero_le _, rfl, rfl, (by (repeat (first | with_reducible assumption | with_reducible exact Kp.refl _ | with_reducible refine Kp.drew ?_ | with_reducible refine Kp.drewN ?_ _ | with_reducible refine Kp.alloc ?_ _ | ((with_reducible refine Kp.setCell ?_ ?_ _); rotate_left; (focus (first | omega | (simp; done) | (simp; omega)))) | with_reducible refine Kp.trans ?_ (by assumption))))⟩
      case round =>
        obtain ⟨q, hq, rfl, rfl, yk⟩ := hrel
        by_cases hlt2 : q < F.length
        · obtain ⟨p, hp⟩ : ∃ x, F[q]? = some x := ⟨F[q]'hlt2, List.getElem?_eq_getElem _⟩
          obtain ⟨gb, ob, rfl, r2⟩ := HFS.out.low (yk.ck) (by omega)
          have C2 := Lib.hid (feet_any p)
          have hsn := footL_snoc hp
          obtain ⟨p0, p1, p2, p3, p4⟩ := p
          have e0 := r2 q _ hp 0 _ rfl
          have e1 := r2 q _ hp 1 _ rfl
          have e2 := r2 q _ hp 2 _ rfl
          have e3 := r2 q _ hp 3 _ rfl
          have e4 := r2 q _ hp 4 _ rfl
          simp only [Nat.add_zero] at e0 e1 e2 e3 e4 hsn
          simp only at C2
          obtain ⟨Y, hY⟩ : ∃ Y, heldI p3 = Y := ⟨_, rfl⟩
          obtain ⟨H, hH⟩ : ∃ H, Y + heldI p4 = H := ⟨_, rfl⟩
          obtain ⟨M, hM⟩ : ∃ M, footL (F.take q) = M := ⟨_, rfl⟩
          rw [hY, hH] at C2 hsn
          rw [hM] at hsn ⊢
          have HSN2 := Lib.hid hsn
          have j2 : decide ((q : Int) < (F.length : Int)) = true := decide_eq_true (by omega)
          clear r2 hp hsn hY hH hM
          go_wp2_with fail
          refine (C2.out _).mono ?_
          rintro e w2 ⟨rfl, k2⟩
          have yk2 : Kp wb w2 := Kp.trans (by (repeat (first | with_reducible assumption | with_reducible exact Kp.refl _ | with_reducible refine Kp.drew ?_ | with_reducible refine Kp.drewN ?_ _ | with_reducible refine Kp.alloc ?_ _ | ((with_reducible refine Kp.setCell ?_ ?_ _); rotate_left; (focus (first | omega | (simp; done) | (simp; omega)))) | with_reducible refine Kp.trans ?_ (by assumption)))) k2
          clear k2
          go_wp2_with fail
          go_roundw
          case rel => exact ⟨q + 1, by omega, by go_num, by rw [HSN2.out], yk2⟩
          case measure => simp [intOf]; omega
        · obtain rfl : q = F.length := by omega
          have j2 : decide ((F.length : Int) < (F.length : Int)) = false := decide_eq_false (by omega)
          rw [List.take_length]
          have hfr := footL_range F
          obtain ⟨low, hlow⟩ : ∃ M, footL F = M := ⟨_, rfl⟩
          rw [hlow] at hfr HSNP ⊢
          have HE2 := Lib.hid (fun r => @lt_endR low st hst1 hfr.1 r)
          have hER := endR_le low st
          obtain ⟨E, hE⟩ : ∃ E, endR low st = E := ⟨_, rfl⟩
          rw [hE] at HE2 HSNP hER
          have bp2 := bp.kp yk
          have xb2 := xb1.kp yk
          have xk2 := xk1.trans yk
          clear hlow hE yk xk1 xb1 bp hfc hfm HFS kw1
          go_wp2_with fail
          go_loopw [13, 14] (fun v13 v14 wr' => ∃ (r : Nat), r ≤ E ∧ v13 = .int .i64 r ∧ v14 = .int .i64 ((r : Int) * st) ∧ Bld w.heap.size w.heap.size (T ++ RP r) wr' ∧ Blk wr' wa.heap.size [.slice la ll lc, .int .i64 pt, .int .i64 pf, .int .i64 pl] 39 ∧ Kp w wr') (fun v13 _ _ => 100 - (intOf v13).toNat)
          case atStart => exact ⟨0, Nat.zero_le _, rfl, by simp, by rw [HR0.out]; simpa using xb2, bp2, xk2⟩
          case round =>
            clear xb2 bp2 xk2
            obtain ⟨r, hr, rfl, rfl, zb, zp, zk⟩ := hrel
            have c0 := zp.cell 0 rfl
            have hrs := HRF.out r (by omega)
            have hy0 : 0 ≤ (r : Int) * st := Int.mul_nonneg (by omega) (by omega)
            have hy1 : (r : Int) * st ≤ 100 * st := Int.mul_le_mul_of_nonneg_right (by omega) (by omega)
            have hya : ((r + 1 : Nat) : Int) * st = (r : Int) * st + st := by push_cast; rw [Int.add_mul, Int.one_mul]
            have he := HE2.out r
            have hrn := HRN.out r
            obtain ⟨y, hy⟩ : ∃ y, (r : Int) * st = y := ⟨_, rfl⟩
            rw [hy] at hy0 hy1 hya he hrn ⊢
            have HYA := Lib.hid hya
            clear hy hya
            by_cases hre : r < E
            · obtain ⟨hr1, hr2⟩ := he.1 hre
              have j3 : decide ((r : Int) < 100) = true := decide_eq_true (by omega)
              have j4 : decide (y < low) = true := decide_eq_true hr2
              have ZB := Lib.hid zb
              have HRN2 := Lib.hid hrn
              have HRL2 := Lib.hid (HRL.out y)
              have e1 : IntKind.i64.wrap (y + st) = y + st := by unfold IntKind.wrap; simp [IntKind.bits, IntKind.signed]; omega
              clear zb hrn he
              go_wp2_with fail
              go_loopw [63] (fun v63 wr' => ∃ (m : Nat), m ≤ ls.length ∧ v63 = .int .i64 m ∧ Bld w.heap.size w.heap.size (T ++ RP r ++ (ls.take m).map (fun z => signB z.s.l y)) wr' ∧ Blk wr' wa.heap.size [.slice la ll lc, .int .i64 pt, .int .i64 pf, .int .i64 pl] 39 ∧ Kp w wr') (fun v63 _ => ls.length - (intOf v63).toNat)
              case atStart => exact ⟨0, Nat.zero_le _, rfl, by simpa using ZB.out, zp, zk⟩
              case round =>
                clear ZB zp zk c0
                obtain ⟨m, hm, rfl, ub, up, uk⟩ := hrel
                have hsl := HGX.out.2.2.2.1.1
                simp only at hsl
                subst hsl
                have hlc1 := HGX.out.2.2.2.1.2.1
                have hlc2 := HGX.out.2.2.2.1.2.2.1
                unfold maxLen at hlc2
                simp only at hlc1 hlc2 hlan
                have hml : ((ls.take m).map (fun z => signB z.s.l y)).length ≤ 20 := by rw [List.length_map, List.length_take]; omega
                obtain ⟨V, hV⟩ : ∃ V, (ls.take m).map (fun z => signB z.s.l y) = V := ⟨_, rfl⟩
                rw [hV] at ub hml
                by_cases hlt3 : m < ls.length
                · obtain ⟨z, hz⟩ : ∃ z, ls[m]? = some z := ⟨ls[m]'hlt3, List.getElem?_eq_getElem _⟩
                  have hgz := HGX.out.2.2.2.2 z (List.mem_of_getElem? hz)
                  have hmn : (ls.take (m + 1)).map (fun z => signB z.s.l y) = V ++ [signB z.s.l y] := by rw [List.take_add_one, hz, List.map_append, hV]; rfl
                  obtain ⟨gc, oc, rfl, r3⟩ := HGX.out.2.2.2.1.low (uk.ck) (by simp only; omega)
                  have hzl := hgz.2.1.kp uk
                  have hzn := hzl.1
                  obtain ⟨zx, ⟨qa, ql, qc, qs⟩⟩ := z
                  have f0 := r3 m _ hz 0 _ rfl
                  have f1 := r3 m _ hz 1 _ rfl
                  simp only [Nat.add_zero] at f0 f1 hmn
                  simp only at hzl hzn
                  subst hzn
                  have C3 : Hid (∀ w', Kp wr w' → Calls Tryd.prog 30 #[.agg #[.int .i64 zx, .slice qa qs.length qc], .int .i64 y] w' fun e w'' => e = .returned (.int .u8 ((signB qs y).toNat : Int)) ∧ Kp w' w'') := Lib.hid (fun w' k' => sign_any zx qa qc qs y w' (HE.out.kp (uk.trans k')) (hzl.kp k'))
                  obtain ⟨S, hS⟩ : ∃ S, signB qs y = S := ⟨_, rfl⟩
                  rw [hS] at C3 hmn
                  have UB := Lib.hid ub
                  have UP := Lib.hid up
                  have HMN := Lib.hid hmn
                  have j5 : decide ((m : Int) < (ls.length : Int)) = true := decide_eq_true (by omega)
                  have hb3 := ub.lt
                  clear r3 hz hgz hzl hmn hS hV ub up
                  go_wp2_with fail
                  refine (C3.out _ (by (repeat (first | with_reducible assumption | with_reducible exact Kp.refl _ | with_reducible refine Kp.drew ?_ | with_reducible refine Kp.drewN ?_ _ | with_reducible refine Kp.alloc ?_ _ | ((with_reducible refine Kp.setCell ?_ ?_ _); rotate_left; (focus (first | omega | (simp; done) | (simp; omega)))) | with_reducible refine Kp.trans ?_ (by assumption))))).mono ?_
                  rintro e w3 ⟨rfl, k3⟩
                  have kw3 : Kp wr w3 := Kp.trans (by (repeat (first | with_reducible assumption | with_reducible exact Kp.refl _ | with_reducible refine Kp.drew ?_ | with_reducible refine Kp.drewN ?_ _ | with_reducible refine Kp.alloc ?_ _ | ((with_reducible refine Kp.setCell ?_ ?_ _); rotate_left; (focus (first | omega | (simp; done) | (simp; omega)))) | with_reducible refine Kp.trans ?_ (by assumption)))) k3
                  have ub3 := UB.out.kp kw3
                  have up3 := UP.out.kp kw3
                  have uk3 := uk.trans kw3
                  clear k3 C3 UB UP uk
                  go_wp2_with fail
                  refine (putByte _ _ _ _ S rfl _ ub3 (by simp only [List.length_append]; omega)).mono ?_
                  rintro e w4 ⟨⟨v4, rfl⟩, h4, b4⟩
                  have up4 := up3.wr (by decide) (ne_sz hb) b4
                  have uk4 : Kp w w4 := b4.kp uk3 (Nat.le_refl _)
                  clear ub3 up3 uk3
                  go_wp2_with fail
                  go_roundw
                  case rel => exact ⟨m + 1, by omega, by go_num, by rw [HMN.out, ← List.append_assoc]; exact h4, up4, uk4⟩
                  case measure => simp [intOf]; omega
                · obtain rfl : m = ls.length := by omega
                  have j5 : decide ((ls.length : Int) < (ls.length : Int)) = false := decide_eq_false (by omega)
                  rw [List.take_length] at hV
                  have UP := Lib.hid up
                  have hrl := HRL2.out
                  rw [hV] at hrl
                  have HRL3 := Lib.hid hrl
                  clear up hV hrl
                  go_wp2_with fail
                  refine (putByte _ _ _ 10 10 rfl _ ub (by simp only [List.length_append]; omega)).mono ?_
                  rintro e w4 ⟨⟨v4, rfl⟩, h4, b4⟩
                  have up4 := UP.out.wr (by decide) (ne_sz hb) b4
                  have uk4 : Kp w w4 := b4.kp uk (Nat.le_refl _)
                  go_wp2_with fail
                  go_roundw
                  case rel => exact ⟨r + 1, by omega, by go_num, by rw [HYA.out], by rw [HRN2.out, HRL3.out, ← List.append_assoc, ← List.append_assoc]; exact h4, up4, uk4⟩
                  case measure => simp [intOf]; omega
            · obtain rfl : r = E := by omega
              have hend : sketchN st l (k + 1) = T ++ RP r ++ [10] := by rw [HSN.out, HSNP.out, List.append_assoc]
              have HEND := Lib.hid hend
              have ZB := Lib.hid zb
              have fin : ∀ (wz : World), wz = wr → True := fun _ _ => trivial
              clear hend zb hrn
              by_cases hr1 : r < 100
              · have j3 : decide ((r : Int) < 100) = true := decide_eq_true (by omega)
                have j4 : decide (y < low) = false := decide_eq_false (fun h => hre (he.2 ⟨hr1, h⟩))
                clear he hre fin
                go_wp2_with fail
                refine (putByte _ _ _ 10 10 rfl _ ZB.out (by simp only [List.length_append]; omega)).mono ?_
                rintro e w4 ⟨⟨v4, rfl⟩, h4, b4⟩
                have uk4 : Kp w w4 := b4.kp zk (Nat.le_refl _)
                go_wp2_with fail
                go_roundw
                case rel => exact ⟨k + 1, by omega, by go_num, by rw [HEND.out]; exact h4, uk4⟩
                case measure => simp [intOf]; omega
              · have j3 : decide ((r : Int) < 100) = false := decide_eq_false (by omega)
                clear he hre fin
                go_wp2_with fail
                refine (putByte _ _ _ 10 10 rfl _ ZB.out (by simp only [List.length_append]; omega)).mono ?_
                rintro e w4 ⟨⟨v4, rfl⟩, h4, b4⟩
                have uk4 : Kp w w4 := b4.kp zk (Nat.le_refl _)
                go_wp2_with fail
                go_roundw
                case rel => exact ⟨k + 1, by omega, by go_num, by rw [HEND.out]; exact h4, uk4⟩
                case measure => simp [intOf]; omega
    · obtain rfl : k = l.length := by omega
      have j1 : decide ((l.length : Int) < (l.length : Int)) = false := decide_eq_false (by omega)
      obtain ⟨T, hTe⟩ : ∃ T, sketchN st l l.length = T := ⟨_, rfl⟩
      rw [hTe] at xb
      go_wp2_with fail
      refine (getString _ _ _ _ xb).mono ?_
      rintro e w2 ⟨rfl, b2⟩
      have k2 : Kp w w2 := Below.trans xk b2
      clear b2
      go_wp2_with fail
      go_ret
      exact ⟨by rw [HSTE.out, hTe]; rfl, k2⟩
theorem sketch_no (a : Option Addr) (len cap : Nat) (step : Int) (w : World) (hst : step < 1) :
    Calls Tryd.prog 12 #[.slice a len cap, .int .i64 step] w fun e w' => e = .returned (sv []) ∧ Kp w w' := by
  have j0 : decide (step < 1) = true := decide_eq_true hst
  clear hst
  go_enter Tryd.func12, Tryd.ntmps12
  go_wp2_with fail
  (try go_ret)
  exact ⟨rfl, (by (repeat (first | with_reducible assumption | with_reducible exact Kp.refl _ | with_reducible refine Kp.drew ?_ | with_reducible refine Kp.drewN ?_ _ | with_reducible refine Kp.alloc ?_ _ | ((with_reducible refine Kp.setCell ?_ ?_ _); rotate_left; (focus (first | omega | (simp; done) | (simp; omega)))) | with_reducible refine Kp.trans ?_ (by assumption))))⟩
end Go.Proofs.YtfiejiokconobaaDoor
