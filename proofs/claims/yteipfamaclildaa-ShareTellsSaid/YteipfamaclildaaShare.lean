/- All parts together: the walk of share.of. -/
import Derived.Test.YteipfamaclildaaShareP

namespace Go.Proofs.Yteipfamaclildaa

open Go.RowKit

set_option maxRecDepth 100000 in
set_option maxHeartbeats 1000000 in
theorem shareOf_any (whole : Int) (a : Option Addr) (len cap : Nat) (l : List Int) (w : World) (hl : SlOk w 1 enc1 a len cap l) (hok : ∀ x, x ∈ l → I64 x) :
    Calls Try.prog 54 #[.int .i64 whole, .slice a len cap] w
      fun e w' => e = .returned (.tuple #[.int .i64 (shTot whole l), .bool (shOk whole l)]) ∧ Kp w w' := by
  by_cases hw : whole < 0
  · have hn := shOk_no (whole := whole) (l := l) (by omega)
    rw [hn, shTot_no hn]
    clear hn hl hok
    go_enter Try.func54, Try.ntmps54
    go_wp2
    go_ret2
    exact ⟨rfl, (by (repeat (first | with_reducible assumption | with_reducible exact Kp.refl _ | with_reducible refine Kp.drew ?_ | with_reducible refine Kp.drewN ?_ _ | with_reducible refine Kp.alloc ?_ _ | ((with_reducible refine Kp.setCell ?_ ?_ _); rotate_left; (focus (first | omega | (simp; done) | (simp; omega)))) | with_reducible refine Kp.trans ?_ (by assumption))))⟩
  · have hm := hl.2.2.1
    have hc := hl.2.1
    unfold maxLen at hm
    have HO := Lib.hid hok; clear hok
    go_enter Try.func54, Try.ntmps54
    go_wp2_with fail
    refine (spNew_any _).mono ?_
    rintro e v3 ⟨rfl, hv3⟩
    have x0 : Blk v3 w.heap.size (met 0 false) 132 := by subst hv3; exact Blk.new _ _ _
    have k3 : Kp w v3 := by subst hv3; exact (by (repeat (first | with_reducible assumption | with_reducible exact Kp.refl _ | with_reducible refine Kp.drew ?_ | with_reducible refine Kp.drewN ?_ _ | with_reducible refine Kp.alloc ?_ _ | ((with_reducible refine Kp.setCell ?_ ?_ _); rotate_left; (focus (first | omega | (simp; done) | (simp; omega)))) | with_reducible refine Kp.trans ?_ (by assumption))))
    clear hv3
    go_wp2
    go_loopw [16] (fun v16 wr => ∃ (k : Nat) (s : Int), k ≤ len ∧ v16 = .int .i64 k ∧ Blk wr w.heap.size (met s false) 132 ∧ Kp w wr ∧ Hid ((l.take k).sum = s ∧ (∀ x ∈ l.take k, 0 ≤ x) ∧ 0 ≤ s ∧ s ≤ 9223372036854775807)) (fun v16 _ => len - (intOf v16).toNat)
    case atStart => exact ⟨0, 0, by omega, rfl, (by (repeat (first | with_reducible assumption | ((with_reducible refine Blk.newL ?_ ?_); (focus (first | (simp; done) | omega)); rfl) | with_reducible refine Blk.drew ?_ | with_reducible refine Blk.drewN ?_ _ | with_reducible refine Blk.alloc ?_ _ | ((with_reducible refine Blk.other ?_ ?_ _); rotate_left; (focus (first | with_reducible assumption | omega | (simp; done) | (simp; omega))))))), (by (repeat (first | with_reducible assumption | with_reducible exact Kp.refl _ | with_reducible refine Kp.drew ?_ | with_reducible refine Kp.drewN ?_ _ | with_reducible refine Kp.alloc ?_ _ | ((with_reducible refine Kp.setCell ?_ ?_ _); rotate_left; (focus (first | omega | (simp; done) | (simp; omega)))) | with_reducible refine Kp.trans ?_ (by assumption)))), Lib.hid ⟨by simp, by simp, by decide, by decide⟩⟩
    case round =>
      clear x0 k3
      obtain ⟨k, s, hk, rfl, xs, xk, hs⟩ := hrel
      have xl := hl.kp xk
      have HL := Lib.hid xl.1
      by_cases hlt : k < len
      · obtain ⟨x, hx⟩ : ∃ x, l[k]? = some x := ⟨l[k]'(by rw [xl.1]; exact hlt), List.getElem?_eq_getElem _⟩
        have HX := Lib.hid hx; clear hx
        rcases xl.2.2.2 with e | ⟨b, off, rfl, hb, hrow⟩
        · exact absurd (by rw [← xl.1, e]; rfl) (Nat.ne_of_gt (Nat.lt_of_le_of_lt (Nat.zero_le k) hlt))
        · have c0 : wr.cell? ⟨b, off + k, none⟩ = some (.int .i64 x) := by
            have h := hrow k _ HX.out 0 _ rfl
            rw [Nat.mul_one] at h; exact h
          clear hrow
          by_cases hx0 : x < 0
          · have hn : shOk whole l = false := shOk_no (fun h => by have := h.2.1 x (List.mem_of_getElem? HX.out); omega)
            have HN := Lib.hid hn; clear hn
            go_wp2
            go_ret2
            exact ⟨by rw [HN.out, shTot_no HN.out]; rfl, (by (repeat (first | with_reducible assumption | with_reducible exact Kp.refl _ | with_reducible refine Kp.drew ?_ | with_reducible refine Kp.drewN ?_ _ | with_reducible refine Kp.alloc ?_ _ | ((with_reducible refine Kp.setCell ?_ ?_ _); rotate_left; (focus (first | omega | (simp; done) | (simp; omega)))) | with_reducible refine Kp.trans ?_ (by assumption))))⟩
          · have HXI := Lib.hid (HO.out _ (List.mem_of_getElem? HX.out))
            have HSI : Hid (I64 s) := Lib.hid ⟨by have := hs.out.2.2.1; omega, hs.out.2.2.2⟩
            have hd : decide (x < 0) = false := decide_eq_false hx0
            go_wp2_with fail
            refine (byAdd_any _ _ _ _ xs HSI.out HXI.out).mono ?_
            rintro e w1 ⟨rfl, hw1⟩
            have b1 : Blk w1 w.heap.size (met (clip (s + x)) (!fits (s + x))) 132 := by subst hw1; exact (xs.set 0 _).set 1 _
            have k1 : Kp w w1 := by subst hw1; exact (by (repeat (first | with_reducible assumption | with_reducible exact Kp.refl _ | with_reducible refine Kp.drew ?_ | with_reducible refine Kp.drewN ?_ _ | with_reducible refine Kp.alloc ?_ _ | ((with_reducible refine Kp.setCell ?_ ?_ _); rotate_left; (focus (first | omega | (simp; done) | (simp; omega)))) | with_reducible refine Kp.trans ?_ (by assumption))))
            clear hw1 xs xk xl c0
            cases hf : fits (s + x) with
            | false =>
              have hn : shOk whole l = false := shOk_no (fun h => by
                have h1 := sum_succ HX.out
                have h2 := sum_take h.2.1 (k + 1)
                rw [hs.out.1] at h1
                have h3 := hs.out.2.2.1
                have : fits (s + x) = true := fits_yes (by omega) (by have := h.2.2.1; omega)
                rw [hf] at this; cases this)
              have HN := Lib.hid hn
              clear hn hf b1
              go_wp2
              go_ret2
              exact ⟨by rw [HN.out, shTot_no HN.out]; rfl, (by (repeat (first | with_reducible assumption | with_reducible exact Kp.refl _ | with_reducible refine Kp.drew ?_ | with_reducible refine Kp.drewN ?_ _ | with_reducible refine Kp.alloc ?_ _ | ((with_reducible refine Kp.setCell ?_ ?_ _); rotate_left; (focus (first | omega | (simp; done) | (simp; omega)))) | with_reducible refine Kp.trans ?_ (by assumption))))⟩
            | true =>
              have HF := Lib.hid hf
              rw [clip_yes hf, hf] at b1
              clear hf
              go_wp2
              go_roundw
              case rel =>
                refine ⟨k + 1, s + x, by omega, by go_num, b1, (by (repeat (first | with_reducible assumption | with_reducible exact Kp.refl _ | with_reducible refine Kp.drew ?_ | with_reducible refine Kp.drewN ?_ _ | with_reducible refine Kp.alloc ?_ _ | ((with_reducible refine Kp.setCell ?_ ?_ _); rotate_left; (focus (first | omega | (simp; done) | (simp; omega)))) | with_reducible refine Kp.trans ?_ (by assumption)))), Lib.hid ⟨by rw [sum_succ HX.out, hs.out.1], ?_, by have := hs.out.2.2.1; omega, (fits_iff.1 HF.out).2⟩⟩
                intro y hy
                rw [take_snocI HX.out] at hy
                rcases List.mem_append.1 hy with hy | hy
                · exact hs.out.2.1 y hy
                · rw [List.mem_singleton] at hy; subst hy; omega
              case measure => simp [intOf]; omega
      · obtain rfl : k = len := by omega
        have hlast := hs.out
        rw [List.take_of_length_le (Nat.le_of_eq HL.out)] at hlast
        obtain ⟨e1, e2, e3, e4⟩ := hlast
        have HE := Lib.hid e1
        have HP := Lib.hid e2
        clear hs xl e1 e2
        go_wp2_with fail
        refine (value_any _ s _ (xs.cell 0 rfl) (xs.cell 1 rfl)).mono ?_
        rintro e v6 ⟨rfl, h6⟩
        rw [h6]
        clear h6
        by_cases h0 : 0 < s
        · have hy : shOk whole l = true := shOk_iff.2 ⟨by omega, HP.out, by rw [HE.out]; exact e4, by rw [HE.out]; exact h0⟩
          have HY := Lib.hid hy; clear hy
          go_wp2
          go_ret2
          exact ⟨by rw [HY.out, shTot_yes HY.out, HE.out]; rfl, (by (repeat (first | with_reducible assumption | with_reducible exact Kp.refl _ | with_reducible refine Kp.drew ?_ | with_reducible refine Kp.drewN ?_ _ | with_reducible refine Kp.alloc ?_ _ | ((with_reducible refine Kp.setCell ?_ ?_ _); rotate_left; (focus (first | omega | (simp; done) | (simp; omega)))) | with_reducible refine Kp.trans ?_ (by assumption))))⟩
        · have hn : shOk whole l = false := shOk_no (by rw [HE.out]; omega)
          have hs0 : s = 0 := by omega
          have HN := Lib.hid hn; clear hn
          subst hs0
          go_wp2
          go_ret2
          exact ⟨by rw [HN.out, shTot_no HN.out]; rfl, (by (repeat (first | with_reducible assumption | with_reducible exact Kp.refl _ | with_reducible refine Kp.drew ?_ | with_reducible refine Kp.drewN ?_ _ | with_reducible refine Kp.alloc ?_ _ | ((with_reducible refine Kp.setCell ?_ ?_ _); rotate_left; (focus (first | omega | (simp; done) | (simp; omega)))) | with_reducible refine Kp.trans ?_ (by assumption))))⟩
end Go.Proofs.Yteipfamaclildaa
