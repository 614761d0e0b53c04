/- The document's words: a number's value (tympanref43). -/
import Derived.Test.YtaekeogaakogbaaGreatDoorG9

import Derived.Test.YtaekeogaakogbaaGreatDoorDig

import Derived.Test.YtaekeogaakogbaaGreatDoorJ7

import Derived.Test.YtaekeogaakogbaaGreatDoorRw

namespace Go.Proofs.YtaekeogaakogbaaGreatDoor

open Go.ChangeShapes Go.WideShapes Go.ChangeAt Go.RowKit Go.Shelf

theorem canon_len {s : List UInt8} (h : 20 < s.length) : canon s = none := by
  rcases hc : canon s with _ | v
  · rfl
  · have h1 := canon_ok hc
    have h2 := itoa_20 (canon_i64 hc)
    rw [h1] at h2
    omega
theorem canon_digit {s : List UInt8} {v : Int} (h : canon s = some v) {i : Nat} {c : UInt8} (hc : s[i]? = some c) (hi : 0 < i ∨ lowL s = false) : 48 ≤ c.toNat ∧ c.toNat ≤ 57 := by
  have h1 := canon_ok h
  unfold Lib.itoa at h1
  split at h1
  · subst h1
    rcases hi with hi | hi
    · obtain ⟨k, rfl⟩ : ∃ k, i = k + 1 := ⟨i - 1, by omega⟩
      rw [List.getElem?_cons_succ] at hc
      exact dec_byte (List.mem_of_getElem? hc)
    · cases hi
  · subst h1
    exact dec_byte (List.mem_of_getElem? hc)
theorem canon_bad {s : List UInt8} {i : Nat} {c : UInt8} (hc : s[i]? = some c) (hi : 0 < i ∨ lowL s = false) (hd : ¬ (48 ≤ c.toNat ∧ c.toNat ≤ 57)) : canon s = none := by
  rcases h : canon s with _ | v
  · rfl
  · exact absurd (canon_digit h hc hi) hd
theorem canon_value (s : List UInt8) : (Lib.itoa (valueL s) = s → canon s = some (valueL s)) ∧ (Lib.itoa (valueL s) ≠ s → canon s = none) := by
  refine ⟨fun h => ?_, fun h => ?_⟩
  · have := canon_itoa (valueL_i64 s)
    rw [h] at this
    exact this
  · rcases hc : canon s with _ | v
    · rfl
    · have h1 := canon_ok hc
      refine absurd ?_ h
      rw [← h1, value_itoa (canon_i64 hc)]
/-- A number's value, if the word is a number's. -/
def ValEnd (s : List UInt8) (W : World) (e : Ending) (w' : World) : Prop := Kp W w' ∧ ((∃ n v, canon s = some n ∧ e = .returned (.agg #[sv [], v, .bool true]) ∧ Row w' W.heap.size 2 1 enc1 v [n]) ∨
  (canon s = none ∧ ∃ a m c, e = .returned (.agg #[sv [], .slice a m c, .bool false])))
theorem row_blk {α : Type} {w : World} {base b n : Nat} {e : TypeId} {enc : α → List Value} {x : α} (hB : Blk w b (enc x) e) (hb : base ≤ b) (hn : (enc x).length = n) : Row w base e n enc (.slice (some ⟨b, 0, none⟩) 1 1) [x] :=
  ⟨by simp [hn], .inr ⟨b, 1, (enc x).toArray, rfl, hb, hB.heap, Nat.le_refl _, by unfold maxLen; decide, by simp [hn], by simp [← hn]⟩⟩
theorem rowParts : RowT 85 3 := ⟨⟨_, Tryz.underlying85, rfl⟩, by kernel_rfl⟩
set_option maxRecDepth 100000 in
set_option maxHeartbeats 8000000 in
theorem val43_any (s : List UInt8) (hs : s.length ≤ 10000) (w : World) :
    Calls Tryz.prog 67 #[sv s] w (ValEnd s w) := by
  have hsz : (⟨s.toArray⟩ : ByteArray).size = s.length := size_sv s
  obtain ⟨low, hlow⟩ : ∃ low, lowL s = low := ⟨_, rfl⟩
  by_cases hlong : 20 < s.length
  · have j20 : decide ((20 : Int) < (s.length : Int)) = true := decide_eq_true (by omega)
    have j20' : decide (20 < s.length) = true := decide_eq_true hlong
    have HC := Lib.hid (canon_len hlong)
    clear hlow
    go_enter Tryz.func67, Tryz.ntmps67
    go_wp2_with fail
    refine bodyPost_ret (ret_cellRow rowParts Tryz.results67 rfl rfl (show Blk _ w.heap.size [sv [], .slice none 0 0, .bool false] 85 from (by (repeat (first | with_reducible assumption | ((with_reducible refine Blk.newL ?_ ?_); (focus (first | (simp; done) | omega)); rfl) | with_reducible refine Blk.drew ?_ | with_reducible refine Blk.drewN ?_ _ | with_reducible refine Blk.alloc ?_ _ | ((with_reducible refine Blk.other ?_ ?_ _); rotate_left; (focus (first | with_reducible assumption | omega | (simp; done) | (simp; omega))))))))) rfl ?_
    exact ⟨(by (repeat (first | with_reducible assumption | with_reducible exact Kp.refl _ | with_reducible refine Kp.drew ?_ | with_reducible refine Kp.drewN ?_ _ | with_reducible refine Kp.alloc ?_ _ | ((with_reducible refine Kp.setCell ?_ ?_ _); rotate_left; (focus (first | omega | (simp; done) | (simp; omega)))) | with_reducible refine Kp.trans ?_ (by assumption)))), .inr ⟨HC.out, _, _, _, rfl⟩⟩
  have j20 : decide ((20 : Int) < (s.length : Int)) = false := decide_eq_false (by omega)
  have j20' : decide (20 < s.length) = false := decide_eq_false hlong
  have hfirst : s = [] ∨ ∃ (c : UInt8) (h0 : 0 < (⟨s.toArray⟩ : ByteArray).size), (⟨s.toArray⟩ : ByteArray)[0]'h0 = c ∧ ((c.toNat : Int) == 45) = low ∧ decide (0 < s.length) = true := by
    rcases hs0 : s with _ | ⟨c, r⟩
    · exact .inl rfl
    · subst hs0
      refine .inr ⟨c, by rw [size_sv]; simp, rfl, ?_, by simp⟩
      rw [← hlow]
      show ((c.toNat : Int) == 45) = (c == 45)
      by_cases h : c = 45
      · subst h; rfl
      · have e : ¬ (c.toNat : Int) = 45 := fun e => h (UInt8.toNat_inj.1 (by have : (45 : UInt8).toNat = 45 := rfl; omega))
        rw [beq_eq_false_iff_ne.2 h, beq_eq_false_iff_ne.2 e]
  rcases hfirst with rfl | ⟨c0, h00, hc0, hl0, hp0⟩
  · have e0 : Lib.itoa 0 = [48] := by
      unfold Lib.itoa
      rw [if_neg (by omega), Lib.decDigits]
      rfl
    have HC : Hid (canon [] = none) := Lib.hid ((canon_value []).2 (by rw [show valueL [] = 0 from rfl, e0]; simp))
    have N0 := Lib.hid (number_any 0 (by unfold I64; decide))
    rw [e0] at N0
    go_enter Tryz.func67, Tryz.ntmps67
    go_wp2_with fail
    go_loopw [3, 5] (fun v3 v5 wr => v3 = .int .i64 0 ∧ v5 = .int .i64 0 ∧ Blk wr w.heap.size [sv [], .slice none 0 0, .bool false] 85 ∧ Kp w wr) (fun _ _ _ => 0)
    case atStart => exact ⟨rfl, rfl, (by (repeat (first | with_reducible assumption | ((with_reducible refine Blk.newL ?_ ?_); (focus (first | (simp; done) | omega)); rfl) | with_reducible refine Blk.drew ?_ | with_reducible refine Blk.drewN ?_ _ | with_reducible refine Blk.alloc ?_ _ | ((with_reducible refine Blk.other ?_ ?_ _); rotate_left; (focus (first | with_reducible assumption | omega | (simp; done) | (simp; omega))))))), (by (repeat (first | with_reducible assumption | with_reducible exact Kp.refl _ | with_reducible refine Kp.drew ?_ | with_reducible refine Kp.drewN ?_ _ | with_reducible refine Kp.alloc ?_ _ | ((with_reducible refine Kp.setCell ?_ ?_ _); rotate_left; (focus (first | omega | (simp; done) | (simp; omega)))) | with_reducible refine Kp.trans ?_ (by assumption))))⟩
    case round =>
      obtain ⟨rfl, rfl, xo, xk⟩ := hrel
      have xl := xo.lt
      go_wp2_with fail
      refine (N0.out _).mono ?_
      rintro e w3 ⟨rfl, k3⟩
      have xo3 := (xo.alloc (.cells #[.int .i64 0] 2)).kp k3
      have xk3 : Kp w w3 := (show Kp w _ from (by (repeat (first | with_reducible assumption | with_reducible exact Kp.refl _ | with_reducible refine Kp.drew ?_ | with_reducible refine Kp.drewN ?_ _ | with_reducible refine Kp.alloc ?_ _ | ((with_reducible refine Kp.setCell ?_ ?_ _); rotate_left; (focus (first | omega | (simp; done) | (simp; omega)))) | with_reducible refine Kp.trans ?_ (by assumption))))).trans k3
      have x0 := xo3.cell 0 rfl
      have x1 := xo3.cell 1 rfl
      have x2 := xo3.cell 2 rfl
      have f0 := xo3.free 0
      have f1 := xo3.free 1
      have f2 := xo3.free 2
      go_wp2_with fail
      have rr := (((xo3.set 0 (sv [])).set 1 (.slice (some ⟨wr.heap.size, 0, none⟩) 1 1)).set 2 (.bool false))
      refine bodyPost_ret (ret_cellRow rowParts Tryz.results67 rfl rfl rr) rfl ?_
      exact ⟨(by (repeat (first | with_reducible assumption | with_reducible exact Kp.refl _ | with_reducible refine Kp.drew ?_ | with_reducible refine Kp.drewN ?_ _ | with_reducible refine Kp.alloc ?_ _ | ((with_reducible refine Kp.setCell ?_ ?_ _); rotate_left; (focus (first | omega | (simp; done) | (simp; omega)))) | with_reducible refine Kp.trans ?_ (by assumption)))), .inr ⟨HC.out, _, _, _, rfl⟩⟩
  · have HBAD : Hid (∀ i c, s[i]? = some c → 0 < i ∨ low = false → ¬ (48 ≤ c.toNat ∧ c.toNat ≤ 57) → canon s = none) := Lib.hid (by
      intro i c hc hi hd
      exact canon_bad hc (by rw [hlow]; exact hi) hd)
    have hv : valueL s = (s.take s.length).foldl (valueStep low) 0 := by unfold valueL; rw [hlow, List.take_length, List.take_of_length_le (by omega)]
    have HLOW : Hid (∀ c, s[0]? = some c → low = true → valueStep low 0 c = 0) := Lib.hid (by
      intro c hc hl
      have : c = 45 := by
        rw [← hlow] at hl
        rcases s with _ | ⟨d, r⟩
        · cases hc
        · cases hc
          exact beq_iff_eq.1 hl
      subst this
      rfl)
    have HV := Lib.hid hv
    have NV := Lib.hid (number_any (valueL s) (valueL_i64 s))
    have CV := Lib.hid (canon_value s)
    clear hlow hv
    go_enter Tryz.func67, Tryz.ntmps67
    go_wp2_with fail
    go_loopw [3, 5] (fun v3 v5 wr => ∃ i : Nat, i ≤ s.length ∧ v5 = .int .i64 (i : Int) ∧ v3 = .int .i64 ((s.take i).foldl (valueStep low) 0) ∧ Blk wr w.heap.size [sv [], .slice none 0 0, .bool false] 85 ∧ Kp w wr) (fun _ v5 _ => s.length - (intOf v5).toNat)
    case atStart => exact ⟨0, Nat.zero_le _, rfl, rfl, (by (repeat (first | with_reducible assumption | ((with_reducible refine Blk.newL ?_ ?_); (focus (first | (simp; done) | omega)); rfl) | with_reducible refine Blk.drew ?_ | with_reducible refine Blk.drewN ?_ _ | with_reducible refine Blk.alloc ?_ _ | ((with_reducible refine Blk.other ?_ ?_ _); rotate_left; (focus (first | with_reducible assumption | omega | (simp; done) | (simp; omega))))))), (by (repeat (first | with_reducible assumption | with_reducible exact Kp.refl _ | with_reducible refine Kp.drew ?_ | with_reducible refine Kp.drewN ?_ _ | with_reducible refine Kp.alloc ?_ _ | ((with_reducible refine Kp.setCell ?_ ?_ _); rotate_left; (focus (first | omega | (simp; done) | (simp; omega)))) | with_reducible refine Kp.trans ?_ (by assumption))))⟩
    case round =>
      obtain ⟨i, hi, rfl, rfl, xo, xk⟩ := hrel
      have xl := xo.lt
      by_cases hlt : i < s.length
      · have ji : decide ((i : Int) < (s.length : Int)) = true := decide_eq_true (by omega)
        obtain ⟨c, hc⟩ : ∃ c, s[i]? = some c := ⟨s[i], List.getElem?_eq_getElem hlt⟩
        have hcg : (⟨s.toArray⟩ : ByteArray)[i]'(by rw [hsz]; exact hlt) = c := (List.getElem?_eq_some_iff.1 hc).2
        have ht : (s.take (i + 1)).foldl (valueStep low) 0 = valueStep low ((s.take i).foldl (valueStep low) 0) c := by rw [List.take_add_one, hc, List.foldl_append]; rfl
        by_cases hsign : i = 0 ∧ low = true
        · obtain ⟨rfl, rfl⟩ := hsign
          have hz := HLOW.out c hc rfl
          rw [show (s.take 0).foldl (valueStep true) 0 = 0 from rfl, hz] at ht
          have HT := Lib.hid ht
          clear ht hz hc hcg
          rw [show (s.take 0).foldl (valueStep true) 0 = 0 from rfl]
          go_wp2_with fail
          go_roundw
          case rel => exact ⟨1, by omega, by go_num, by rw [HT.out], xo, xk⟩
          case measure => simp [intOf]; omega
        · have hpos : 0 < i ∨ low = false := by
            cases low
            · exact .inr rfl
            · exact .inl (by
                rcases Nat.eq_zero_or_pos i with e | e
                · exact absurd ⟨e, rfl⟩ hsign
                · exact e)
          obtain ⟨n, hn⟩ : ∃ n, (s.take i).foldl (valueStep low) 0 = n := ⟨_, rfl⟩
          rw [hn] at ht ⊢
          by_cases hd : 48 ≤ c.toNat ∧ c.toNat ≤ 57
          · have t1 : decide ((c.toNat : Int) < 48) = false := decide_eq_false (by omega)
            have t1' : decide (c.toNat < 48) = false := decide_eq_false (by omega)
            have t2 : decide ((57 : Int) < (c.toNat : Int)) = false := decide_eq_false (by omega)
            have t2' : decide (57 < c.toNat) = false := decide_eq_false (by omega)
            obtain ⟨d, hdd⟩ : ∃ d : Int, (c.toNat : Int) - 48 = d := ⟨_, rfl⟩
            have u1 : IntKind.u8.wrap d = d := by rw [IntKind.wrap_u8]; omega
            have u2 : IntKind.i64.wrap d = d := by rw [IntKind.wrap_i64]; omega
            have u3 : IntKind.i64.wrap (-d) = -d := by rw [IntKind.wrap_i64]; omega
            have hst : valueStep low n c = IntKind.i64.wrap (IntKind.i64.wrap (n * 10) + (if low then -d else d)) := by unfold valueStep; rw [if_pos hd, hdd]
            rw [hst, IntKind.wrap_i64, IntKind.wrap_i64] at ht
            have HT := Lib.hid ht
            clear hst
            clear ht hn hd hc
            cases low
            · by_cases hi0 : 0 < i
              · have jz : decide ((0 : Int) < (i : Int)) = true := decide_eq_true (by omega)
                have jz' : decide (0 < i) = true := decide_eq_true hi0
                go_wp2_with fail
                go_roundw
                case rel => exact ⟨i + 1, by omega, by go_num, by rw [HT.out]; simp [wrap64], xo, xk⟩
                case measure => simp [intOf]; omega
              · obtain rfl : i = 0 := by omega
                obtain rfl : c = c0 := hcg.symm.trans hc0
                go_wp2_with fail
                go_roundw
                case rel => exact ⟨1, by omega, by go_num, by rw [HT.out]; simp [wrap64], xo, xk⟩
                case measure => simp [intOf]; omega
            · have hi0 : 0 < i := by
                rcases hpos with h | h
                · exact h
                · cases h
              have jz : decide ((0 : Int) < (i : Int)) = true := decide_eq_true (by omega)
              have jz' : decide (0 < i) = true := decide_eq_true hi0
              go_wp2_with fail
              go_roundw
              case rel => exact ⟨i + 1, by omega, by go_num, by rw [HT.out]; simp [wrap64], xo, xk⟩
              case measure => simp [intOf]; omega
          · have HC := Lib.hid (HBAD.out i c hc hpos hd)
            have x0 := xo.cell 0 rfl
            have x1 := xo.cell 1 rfl
            have x2 := xo.cell 2 rfl
            have f0 := xo.free 0
            have f1 := xo.free 1
            have f2 := xo.free 2
            have rr := (((xo.set 0 (sv [])).set 1 (.slice none 0 0)).set 2 (.bool false))
            have RR := Lib.hid rr
            have hlowc : decide (0 < i) = true ∨ (i = 0 ∧ low = false) := by
              rcases Nat.eq_zero_or_pos i with e | e
              · subst e
                rcases hpos with h | h
                · omega
                · exact .inr ⟨rfl, h⟩
              · exact .inl (decide_eq_true e)
            clear rr ht hn hsign hpos
            by_cases hd1 : 48 ≤ c.toNat
            · have t1 : decide ((c.toNat : Int) < 48) = false := decide_eq_false (by omega)
              have t1' : decide (c.toNat < 48) = false := decide_eq_false (by omega)
              have t2 : decide ((57 : Int) < (c.toNat : Int)) = true := decide_eq_true (by omega)
              have t2' : decide (57 < c.toNat) = true := decide_eq_true (by omega)
              clear hc hd hd1
              rcases hlowc with jz' | ⟨rfl, rfl⟩
              · have jz : decide ((0 : Int) < (i : Int)) = true := decide_eq_true (by have := of_decide_eq_true jz'; omega)
                go_wp2_with fail
                refine bodyPost_ret (ret_cellRow rowParts Tryz.results67 rfl rfl RR.out) rfl ?_
                exact ⟨(by (repeat (first | with_reducible assumption | with_reducible exact Kp.refl _ | with_reducible refine Kp.drew ?_ | with_reducible refine Kp.drewN ?_ _ | with_reducible refine Kp.alloc ?_ _ | ((with_reducible refine Kp.setCell ?_ ?_ _); rotate_left; (focus (first | omega | (simp; done) | (simp; omega)))) | with_reducible refine Kp.trans ?_ (by assumption)))), .inr ⟨HC.out, _, _, _, rfl⟩⟩
              · obtain rfl : c = c0 := hcg.symm.trans hc0
                go_wp2_with fail
                refine bodyPost_ret (ret_cellRow rowParts Tryz.results67 rfl rfl RR.out) rfl ?_
                exact ⟨(by (repeat (first | with_reducible assumption | with_reducible exact Kp.refl _ | with_reducible refine Kp.drew ?_ | with_reducible refine Kp.drewN ?_ _ | with_reducible refine Kp.alloc ?_ _ | ((with_reducible refine Kp.setCell ?_ ?_ _); rotate_left; (focus (first | omega | (simp; done) | (simp; omega)))) | with_reducible refine Kp.trans ?_ (by assumption)))), .inr ⟨HC.out, _, _, _, rfl⟩⟩
            · have t1 : decide ((c.toNat : Int) < 48) = true := decide_eq_true (by omega)
              have t1' : decide (c.toNat < 48) = true := decide_eq_true (by omega)
              clear hc hd hd1
              rcases hlowc with jz' | ⟨rfl, rfl⟩
              · have jz : decide ((0 : Int) < (i : Int)) = true := decide_eq_true (by have := of_decide_eq_true jz'; omega)
                go_wp2_with fail
                refine bodyPost_ret (ret_cellRow rowParts Tryz.results67 rfl rfl RR.out) rfl ?_
                exact ⟨(by (repeat (first | with_reducible assumption | with_reducible exact Kp.refl _ | with_reducible refine Kp.drew ?_ | with_reducible refine Kp.drewN ?_ _ | with_reducible refine Kp.alloc ?_ _ | ((with_reducible refine Kp.setCell ?_ ?_ _); rotate_left; (focus (first | omega | (simp; done) | (simp; omega)))) | with_reducible refine Kp.trans ?_ (by assumption)))), .inr ⟨HC.out, _, _, _, rfl⟩⟩
              · obtain rfl : c = c0 := hcg.symm.trans hc0
                go_wp2_with fail
                refine bodyPost_ret (ret_cellRow rowParts Tryz.results67 rfl rfl RR.out) rfl ?_
                exact ⟨(by (repeat (first | with_reducible assumption | with_reducible exact Kp.refl _ | with_reducible refine Kp.drew ?_ | with_reducible refine Kp.drewN ?_ _ | with_reducible refine Kp.alloc ?_ _ | ((with_reducible refine Kp.setCell ?_ ?_ _); rotate_left; (focus (first | omega | (simp; done) | (simp; omega)))) | with_reducible refine Kp.trans ?_ (by assumption)))), .inr ⟨HC.out, _, _, _, rfl⟩⟩
      · obtain rfl : i = s.length := by omega
        have ji : decide ((s.length : Int) < (s.length : Int)) = false := decide_eq_false (by omega)
        rw [← HV.out]
        obtain ⟨n, hn⟩ : ∃ n, valueL s = n := ⟨_, rfl⟩
        rw [hn] at NV CV ⊢
        obtain ⟨t, htt⟩ : ∃ t, Lib.itoa n = t := ⟨_, rfl⟩
        rw [htt] at NV CV
        clear hn htt
        go_wp2_with fail
        refine (NV.out _).mono ?_
        rintro e w3 ⟨rfl, k3⟩
        have kb3 : Blk w3 wr.heap.size (enc1 n) 2 := Blk.kp (show Blk _ wr.heap.size (enc1 n) 2 from (by (repeat (first | with_reducible assumption | ((with_reducible refine Blk.newL ?_ ?_); (focus (first | (simp; done) | omega)); rfl) | with_reducible refine Blk.drew ?_ | with_reducible refine Blk.drewN ?_ _ | with_reducible refine Blk.alloc ?_ _ | ((with_reducible refine Blk.other ?_ ?_ _); rotate_left; (focus (first | with_reducible assumption | omega | (simp; done) | (simp; omega)))))))) k3
        have xo3 := (xo.alloc (.cells #[.int .i64 n] 2)).kp k3
        have xk3 : Kp w w3 := (show Kp w _ from (by (repeat (first | with_reducible assumption | with_reducible exact Kp.refl _ | with_reducible refine Kp.drew ?_ | with_reducible refine Kp.drewN ?_ _ | with_reducible refine Kp.alloc ?_ _ | ((with_reducible refine Kp.setCell ?_ ?_ _); rotate_left; (focus (first | omega | (simp; done) | (simp; omega)))) | with_reducible refine Kp.trans ?_ (by assumption))))).trans k3
        have x0 := xo3.cell 0 rfl
        have x1 := xo3.cell 1 rfl
        have x2 := xo3.cell 2 rfl
        have f0 := xo3.free 0
        have f1 := xo3.free 1
        have f2 := xo3.free 2
        have hxl3 := xo3.lt
        by_cases hts : t = s
        · have HC := Lib.hid (CV.out.1 hts)
          subst hts
          clear CV NV
          go_wp2_with fail
          have rr := (((xo3.set 0 (sv [])).set 1 (.slice (some ⟨wr.heap.size, 0, none⟩) 1 1)).set 2 (.bool true))
          refine bodyPost_ret (ret_cellRow rowParts Tryz.results67 rfl rfl rr) rfl ?_
          exact ⟨(by (repeat (first | with_reducible assumption | with_reducible exact Kp.refl _ | with_reducible refine Kp.drew ?_ | with_reducible refine Kp.drewN ?_ _ | with_reducible refine Kp.alloc ?_ _ | ((with_reducible refine Kp.setCell ?_ ?_ _); rotate_left; (focus (first | omega | (simp; done) | (simp; omega)))) | with_reducible refine Kp.trans ?_ (by assumption)))), .inl ⟨n, _, HC.out, rfl, row_blk (show Blk _ wr.heap.size (enc1 n) 2 from (by (repeat (first | with_reducible assumption | ((with_reducible refine Blk.newL ?_ ?_); (focus (first | (simp; done) | omega)); rfl) | with_reducible refine Blk.drew ?_ | with_reducible refine Blk.drewN ?_ _ | with_reducible refine Blk.alloc ?_ _ | ((with_reducible refine Blk.other ?_ ?_ _); rotate_left; (focus (first | with_reducible assumption | omega | (simp; done) | (simp; omega)))))))) xk.size rfl⟩⟩
        · have HC := Lib.hid (CV.out.2 hts)
          have jts : (t == s) = false := beq_eq_false_iff_ne.2 hts
          clear CV NV hts
          go_wp2_with fail
          have rr := (((xo3.set 0 (sv [])).set 1 (.slice (some ⟨wr.heap.size, 0, none⟩) 1 1)).set 2 (.bool false))
          refine bodyPost_ret (ret_cellRow rowParts Tryz.results67 rfl rfl rr) rfl ?_
          exact ⟨(by (repeat (first | with_reducible assumption | with_reducible exact Kp.refl _ | with_reducible refine Kp.drew ?_ | with_reducible refine Kp.drewN ?_ _ | with_reducible refine Kp.alloc ?_ _ | ((with_reducible refine Kp.setCell ?_ ?_ _); rotate_left; (focus (first | omega | (simp; done) | (simp; omega)))) | with_reducible refine Kp.trans ?_ (by assumption)))), .inr ⟨HC.out, _, _, _, rfl⟩⟩
end Go.Proofs.YtaekeogaakogbaaGreatDoor
