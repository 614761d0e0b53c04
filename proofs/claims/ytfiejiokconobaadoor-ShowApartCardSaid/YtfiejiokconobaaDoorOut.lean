/- How much stands on each page, as a text: the program's. -/
import Derived.Test.YtfiejiokconobaaDoorColl

import Derived.Test.YtfiejiokconobaaDoorText

import Derived.Test.YtfiejiokconobaaDoorPutc

namespace Go.Proofs.YtfiejiokconobaaDoor

open Go.RowKit

theorem infoI64 : (Tryd.prog.info? 2).map (fun i => (i.zero, i.size, i.bytes)) = some (some (.int .i64 0), 1, 8) := by kernel_rfl
/-- The text of the first k, one behind the other. -/
def prefN (f : Nat → Page → List UInt8) (l : List Page) (k : Nat) : List UInt8 := (List.range k).flatMap fun i => (l[i]?).elim [] (f i)
theorem prefN_succ {f : Nat → Page → List UInt8} {l : List Page} {k : Nat} {p : Page} (h : l[k]? = some p) : prefN f l (k + 1) = prefN f l k ++ f k p := by
  unfold prefN
  rw [List.range_succ, List.flatMap_append]; simp [h]
theorem prefN_short {f : Nat → Page → List UInt8} {C : Nat} {l : List Page} (h : ∀ i p, i < l.length → p ∈ l → (f i p).length ≤ C) (k : Nat) (hk : k ≤ l.length) : (prefN f l k).length ≤ l.length * C := by
  unfold prefN
  have := flat_bound (C := C) (f := fun i => (l[i]?).elim [] (f i)) (l := List.range k) fun i hi => by
    have hi' := List.mem_range.1 hi
    rw [List.getElem?_eq_getElem (by omega)]
    exact h i _ (by omega) (List.getElem_mem (l := l) (n := i) (by omega))
  rw [List.length_range] at this
  exact Nat.le_trans this (Nat.mul_le_mul_right C hk)
def kinds (p : Page) : List Int := [(kindN (pagePuts p) 1 : Int), (kindN (pagePuts p) 2 : Int), (kindN (pagePuts p) 3 : Int), (kindN (pagePuts p) 4 : Int)]
def outP (i : Nat) (p : Page) : List UInt8 := lineL (Lib.itoa i) (kinds p) ++ [10]
def outlineN (l : List Page) (k : Nat) : List UInt8 := prefN outP l k
theorem kinds_ok {p : Page} (h : (pagePuts p).length ≤ 1000000) : ∀ x, x ∈ kinds p → I64 x := by
  intro x hx
  have hh := fun k => kindN_le (pagePuts p) k
  unfold kinds at hx
  simp only [List.mem_cons, List.not_mem_nil, or_false] at hx
  unfold I64
  rcases hx with rfl | rfl | rfl | rfl
  · have := hh 1; omega
  · have := hh 2; omega
  · have := hh 3; omega
  · have := hh 4; omega
theorem outP_short {i : Nat} (hi : i < 1000) {p : Page} (h : (pagePuts p).length ≤ 1000000) : (outP i p).length ≤ 200 := by
  unfold outP
  have h1 := lineL_short (wd := Lib.itoa i) (kinds_ok h)
  have h2 := itoa_short (n := (i : Int)) (by unfold I64; omega)
  have h3 : (kinds p).length = 4 := rfl
  rw [List.length_append, List.length_singleton]; omega
theorem Small.page {l : List Page} (hs : Small l) {p : Page} (hp : p ∈ l) : (pagePuts p).length ≤ 2000 := by
  unfold pagePuts
  have h1 := flat_bound (C := 100) (f := fun x : Lane => x.s.l) (l := p.s.l) fun x hx => hs.puts p hp x hx
  have := hs.lanes p hp
  omega
theorem Small.all {l : List Page} (hs : Small l) : (putsOf l).length ≤ 80000 := by
  unfold putsOf
  have h1 := flat_bound (C := 2000) (f := pagePuts) (l := l) fun p hp => hs.page hp
  have := hs.pages
  omega
theorem sl_one {w : World} {ga oa cap len k : Nat} {l : List Page} {x : Page} (h : SlOk w 4 Page.cells (some ⟨ga, oa, none⟩) len cap l) (hx : l[k]? = some x) : SlOk w 4 Page.cells (some ⟨ga, oa + k * 4, none⟩) ([x] : List Page).length (cap - k) [x] := by
  obtain ⟨h1, h2, h3, h4⟩ := h
  have hk := (List.getElem?_eq_some_iff.1 hx).1
  rcases h4 with h4 | ⟨b, off, e, hb, hr⟩
  · rw [h4] at hx; simp at hx
  · cases e
    refine ⟨rfl, by simp; omega, by unfold maxLen at *; omega, .inr ⟨_, _, rfl, hb, fun i y hy j v hv => ?_⟩⟩
    match i, hy with
    | 0, hy =>
      simp only [List.getElem?_cons_zero, Option.some.injEq] at hy
      subst hy
      have := hr k x hx j v hv
      simpa using this
theorem putsOf_one (x : Page) : putsOf [x] = pagePuts x := by simp [putsOf]

theorem kinds_at (p : Page) {j : Nat} (h : j < 4) : (kinds p)[j]? = some (kindN (pagePuts p) ((j : Int) + 1) : Int) := by
  rcases (by omega : j = 0 ∨ j = 1 ∨ j = 2 ∨ j = 3) with rfl | rfl | rfl | rfl <;> rfl
set_option maxRecDepth 100000 in
set_option maxHeartbeats 4000000 in
theorem outline_any (a : Option Addr) (cap : Nat) (l : List Page) (w : World) (he : Env w) (hl : SlOk w 4 Page.cells a l.length cap l) (hg : ∀ y, y ∈ l → y.good w) (hs : Small l) :
    Calls Tryd.prog 10 #[.slice a l.length cap] w fun e w' => e = .returned (sv (outlineN l l.length)) ∧ Kp w w' := by
  have HE := Lib.hid he
  have HL := Lib.hid hl
  have HG := Lib.hid hg
  have HS := Lib.hid hs
  have hl40 := hs.pages
  have HP : Hid (∀ k, k ≤ l.length → (outlineN l k).length ≤ 8000) := Lib.hid (fun k hk => by
    have := prefN_short (f := outP) (C := 200) (l := l) (fun i p hi hp => outP_short (by omega) (by have := HS.out.page hp; omega)) k hk
    unfold outlineN; omega)
  have hcl := hl.2.1
  have hcm := hl.2.2.1
  unfold maxLen at hcm
  clear he hl hg hs
  go_enter Tryd.func10, Tryd.ntmps10
  go_wp2_with fail
  go_loopw [10] (fun v10 wr => ∃ (k : Nat), k ≤ l.length ∧ v10 = .int .i64 k ∧ Bld w.heap.size w.heap.size (outlineN l k) wr ∧ Kp w wr) (fun v10 _ => l.length - (intOf v10).toNat)
  case atStart => exact ⟨0, Nat.zero_le _, rfl, Bld.new w, (by (repeat (first | with_reducible assumption | with_reducible exact Kp.refl _ | with_reducible refine Kp.drew ?_ | with_reducible refine Kp.drewN ?_ _ | with_reducible refine Kp.alloc ?_ _ | ((with_reducible refine Kp.setCell ?_ ?_ _); rotate_left; (focus (first | omega | (simp; done) | (simp; omega)))) | with_reducible refine Kp.trans ?_ (by assumption))))⟩
  case round =>
    obtain ⟨k, hk, rfl, xb, xk⟩ := hrel
    by_cases hlt : k < l.length
    · have hT := HP.out k hk
      obtain ⟨x, hx⟩ : ∃ x, l[k]? = some x := ⟨l[k]'hlt, List.getElem?_eq_getElem _⟩
      have hsn : outlineN l (k + 1) = outlineN l k ++ outP k x := prefN_succ hx
      have hmem := List.mem_of_getElem? hx
      have hpl : (pagePuts x).length ≤ 2000 := HS.out.page hmem
      have hki := kinds_ok (p := x) (by omega)
      have hoS := outP_short (i := k) (by omega) (p := x) (by omega)
      obtain ⟨T, hTe⟩ : ∃ T, outlineN l k = T := ⟨_, rfl⟩
      rw [hTe] at xb hT hsn
      have tl := HL.out.kp xk
      rcases tl.2.2.2 with e | ⟨ga, oa, rfl, hga, _⟩
      · rw [e] at hlt; simp at hlt
      have C1 : Hid (∀ (kd : Int) (w' : World), Kp w w' → Calls Tryd.prog 24 #[.slice (some ⟨ga, oa + k * 4, none⟩) 1 (cap - k), .int .i64 kd] w' fun e w'' => e = .returned (.int .i64 (kindN (pagePuts x) kd)) ∧ Kp w' w'') := Lib.hid (fun kd w' k' => by
        have h := count_any (some ⟨ga, oa + k * 4, none⟩) (cap - k) [x] kd w' (sl_one (HL.out.kp k') hx) (by intro y hy; simp only [List.mem_singleton] at hy; subst hy; exact (HG.out _ hmem).kp k') (by rw [putsOf_one]; omega)
        rw [putsOf_one] at h
        exact h)
      have j1 : decide ((k : Int) < (l.length : Int)) = true := decide_eq_true (by omega)
      have XB := Lib.hid xb
      have HSN := Lib.hid hsn
      have HKI := Lib.hid hki
      have HKA := Lib.hid (fun (j : Nat) (h : j < 4) => kinds_at x h)
      have HK4 : Hid ((kinds x).length = 4) := Lib.hid rfl
      have HO : Hid (outP k x = lineL (Lib.itoa k) (kinds x) ++ [10]) := Lib.hid rfl
      have hoS2 := hoS
      rw [HO.out, List.length_append, List.length_singleton] at hoS2
      obtain ⟨KL, hKL⟩ : ∃ KL, kinds x = KL := ⟨_, rfl⟩
      rw [hKL] at HKA HK4 HO HKI hoS2
      have hkn : ∀ j : Int, kindN (pagePuts x) j ≤ 2000 := fun j => Nat.le_trans (kindN_le _ _) hpl
      have HKN := Lib.hid hkn
      obtain ⟨u, rfl⟩ : ∃ u, u = wr := ⟨_, rfl⟩
      clear tl hx hsn xb hTe hKL hkn hoS
      go_wp2_with fail
      go_loopw [6, 7] (fun v6 v7 wr' => ∃ (j : Nat), j ≤ 4 ∧ v7 = .int .i64 ((j : Int) + 1) ∧ Row wr' u.heap.size 2 1 enc1 v6 (KL.take j) ∧ Kp u wr') (fun _ v7 _ => 5 - (intOf v7).toNat)
      case atStart => exact ⟨0, by omega, rfl, Row.nil _ _ _ _ _, (by (repeat (first | with_reducible assumption | with_reducible exact Kp.refl _ | with_reducible refine Kp.drew ?_ | with_reducible refine Kp.drewN ?_ _ | with_reducible refine Kp.alloc ?_ _ | ((with_reducible refine Kp.setCell ?_ ?_ _); rotate_left; (focus (first | omega | (simp; done) | (simp; omega)))) | with_reducible refine Kp.trans ?_ (by assumption))))⟩
      case round =>
        obtain ⟨j, hj, rfl, yr, yk⟩ := hrel
        by_cases hlt2 : j < 4
        · have hka := HKA.out j hlt2
          have htk : KL.take (j + 1) = KL.take j ++ [(kindN (pagePuts x) ((j : Int) + 1) : Int)] := by rw [List.take_add_one, hka]; rfl
          have hln := HKN.out ((j : Int) + 1)
          have htl : (KL.take j).length ≤ 4 := by rw [List.length_take]; omega
          have CC := Lib.hid (C1.out ((j : Int) + 1) wr (xk.trans yk))
          obtain ⟨c, hc⟩ : ∃ c, kindN (pagePuts x) ((j : Int) + 1) = c := ⟨_, rfl⟩
          rw [hc] at CC htk hln
          have j2 : decide ((j : Int) + 1 ≤ 4) = true := decide_eq_true (by omega)
          have HTK := Lib.hid htk
          have YR := Lib.hid yr
          clear hka htk hc yr
          go_wp2_with fail
          refine CC.out.mono ?_
          rintro e w1 ⟨rfl, k1⟩
          have yr1 := Lib.hid (YR.out.kp k1)
          have yk1 := yk.trans k1
          clear k1 CC YR yk
          go_wp2_with (at_builtin; refine rowAppend ?gd (.tmp 22) (.tmp 26) 55 ?ho Tryd.underlying55 infoI64 rfl (by decide) (yr1.out.alloc _) ?hs (y := (c : Int)) rfl ?h1 (Blk.new _ _ 2) ?hx ?hl ?hb ?hz ?_; (case gd => rfl); (case ho => rfl); (case hs => rfl); (case hx => rfl); (case h1 => intro u hu; simp [enc1] at hu; subst hu; rfl); (case hl => unfold maxLen; omega); (case hb => omega); (case hz => have := yk1.size; simp; omega); intro v' w' hr' hkk _ hsz _)
          go_roundw
          case rel => exact ⟨j + 1, by omega, by go_num, by rw [HTK.out]; exact hr', hkk (Nat.le_refl _) (yk1.alloc _)⟩
          case measure => simp [intOf]; omega
        · obtain rfl : j = 4 := by omega
          have j2 : decide (((4 : Nat) : Int) + 1 ≤ 4) = false := by decide
          rw [List.take_of_length_le (by rw [HK4.out]; exact Nat.le_refl _)] at yr
          obtain ⟨sa, sc, rfl, hsl⟩ := yr.sl (fun _ => rfl)
          have xk1 := xk.trans yk
          have HSL := Lib.hid hsl
          have xb1 := XB.out.kp yk
          clear yr hsl yk xk
          go_wp2_with fail
          refine (itoaRun (k : Int) (by unfold I64; omega) _ (HE.out.kp xk1)).mono ?_
          rintro e w2 ⟨rfl, k2⟩
          have xk2 := xk1.trans k2
          have xb2 := xb1.kp k2
          have hit := itoa_short (n := (k : Int)) (by unfold I64; omega)
          obtain ⟨I, hI⟩ : ∃ I, Lib.itoa (k : Int) = I := ⟨_, rfl⟩
          have HO2 := HO
          rw [hI] at HO2 hit hoS2
          rw [hI]
          clear hI
          go_wp2_with fail
          refine (line_any sa sc I KL _ (HE.out.kp xk2) (HSL.out.kp k2) HKI.out (by omega) (by rw [HK4.out]; omega)).mono ?_
          rintro e w3 ⟨rfl, k3⟩
          have xk3 := xk2.trans k3
          have xb3 := xb2.kp k3
          clear k2 k3 xk1 xk2 xb1 xb2
          go_wp2_with fail
          refine (putString _ _ _ _ _ xb3 (by omega)).mono ?_
          rintro e w4 ⟨⟨v4, rfl⟩, h4, b4⟩
          have xk4 := b4.kp xk3 (Nat.le_refl _)
          go_wp2_with fail
          refine (putByte _ _ _ 10 10 rfl _ h4 (by rw [List.length_append]; omega)).mono ?_
          rintro e w5 ⟨⟨v5, rfl⟩, h5, b5⟩
          have xk5 := b5.kp xk4 (Nat.le_refl _)
          go_wp2_with fail
          go_roundw
          case rel => exact ⟨k + 1, by omega, by go_num, by rw [HSN.out, HO2.out, ← List.append_assoc]; exact h5, xk5⟩
          case measure => simp [intOf]; omega
    · obtain rfl : k = l.length := by omega
      have j1 : decide ((l.length : Int) < (l.length : Int)) = false := decide_eq_false (by omega)
      obtain ⟨T, hTe⟩ : ∃ T, outlineN l l.length = T := ⟨_, rfl⟩
      rw [hTe] at xb
      go_wp2_with fail
      refine (getString _ _ _ _ xb).mono ?_
      rintro e w2 ⟨rfl, b2⟩
      have k2 : Kp w w2 := Below.trans xk b2
      clear b2
      go_wp2_with fail
      go_ret
      exact ⟨by rw [hTe]; rfl, k2⟩
end Go.Proofs.YtfiejiokconobaaDoor
