/- The laws SpReckons and SpSums: the walks. -/
import Derived.Test.YteipfamaclildaaSpLaws

import Derived.Test.YteipfamaclildaaSl

import Derived.Deep.RegionWith

namespace Go.Proofs.Yteipfamaclildaa

open Go.ChangeShapes Go.WideShapes Go.ChangeAt Go.RowKit

/-- Numbers added from the left on; none: one sum does not fit. -/
def runs (s : Int) : List Int → Option Int
  | [] => some s
  | x :: r => if fits (s + x) = true then runs (s + x) r else none
theorem runs_append (l : List Int) (x : Int) : ∀ s, runs s (l ++ [x]) = (runs s l).bind fun y => if fits (y + x) = true then some (y + x) else none := by
  induction l with
  | nil => intro s; simp only [List.nil_append, runs, Option.bind_some]
  | cons a r ih => intro s; simp only [List.cons_append, runs]; split
                   · exact ih _
                   · rfl
theorem runs_none (l r : List Int) : ∀ s, runs s l = none → runs s (l ++ r) = none := by
  induction l with
  | nil => intro s h; simp [runs] at h
  | cons a l ih => intro s h; simp only [List.cons_append, runs] at h ⊢; split at h
                   · rename_i c; rw [if_pos c]; exact ih _ h
                   · rename_i c; rw [if_neg c]
theorem runs_i64 (l : List Int) : ∀ s x : Int, I64 s → runs s l = some x → I64 x := by
  induction l with
  | nil => intro s x hs h; simp only [runs, Option.some.injEq] at h; subst h; exact hs
  | cons a r ih => intro s x hs h; simp only [runs] at h; split at h
                   · rename_i c; exact ih _ _ (fits_iff.1 c) h
                   · cases h
theorem take_snocI {l : List Int} {k : Nat} {x : Int} (h : l[k]? = some x) : l.take (k + 1) = l.take k ++ [x] := by
  obtain ⟨hk, rfl⟩ := List.getElem?_eq_some_iff.1 h
  rw [List.take_succ_eq_append_getElem hk]
/-- A number as a cell. -/
def enc1 (x : Int) : List Value := [.int .i64 x]
theorem enc1_of {cs : List Value} (h : Open.allOk [.int .i64] cs) : ∃ x : Int, cs = enc1 x ∧ I64 x := by
  obtain _ | ⟨c, cs⟩ := cs; · exact absurd h id
  obtain _ | ⟨c', cs⟩ := cs; rotate_left; · exact absurd h.2 id
  obtain ⟨⟨x, rfl, w⟩, _⟩ := h
  exact ⟨x, rfl, Open.i64_of w⟩
theorem Open.flat_sp : Open.flatK Try.prog 4 28 = some [.int .i64] := by kernel_rfl
set_option maxRecDepth 100000 in
theorem Open.open_sps {H : Type} {enc : TypeId × Value → H} {w : World} {r : Reach} {b0 : Nat} {v : Value} {d : DataW H} {p : List MemPlace}
    (hv : Value.okWide Try.prog w r b0 49 v) (h : DataW.Trod enc Try.prog w 0 (fun _ => true) true 49 v d p) : ∃ x : SlV Int, v = x.v ∧ (SlOk w 1 enc1 x.a x.len x.cap x.l ∧ ∀ y, y ∈ x.l → I64 y) := by
  have hc : Try.prog.cellsOf 28 = 1 := by kernel_rfl
  obtain ⟨a, len, cap, l, hv', hs, ho⟩ := Open.open_sl 4 Try.underlying49 hc (by decide) Open.flat_sp (ok := I64) (fun cs hcs => enc1_of hcs) hv h
  exact ⟨⟨a, len, cap, l⟩, hv', hs, ho⟩
theorem SlOk.take {α : Type} {w : World} {n : Nat} {enc : α → List Value} {a : Option Addr} {len cap : Nat} {l : List α} (h : SlOk w n enc a len cap l) {k : Nat} (hk : k ≤ len) : SlOk w n enc a k cap (l.take k) := by
  obtain ⟨h1, h2, h3, h4⟩ := h
  refine ⟨by rw [List.length_take]; omega, by omega, h3, ?_⟩
  rcases h4 with h4 | ⟨b, off, ha, hb, hr⟩
  · left; rw [h4]; exact List.take_nil
  · refine .inr ⟨b, off, ha, hb, fun i x hx => hr i x ?_⟩
    rw [List.getElem?_take] at hx
    split at hx
    · exact hx
    · cases hx

set_option maxRecDepth 100000 in
set_option maxHeartbeats 1000000 in
theorem spSum_any (a : Option Addr) (len cap : Nat) (l : List Int) (w : World) (hl : SlOk w 1 enc1 a len cap l) (hok : ∀ x, x ∈ l → I64 x) :
    Calls Try.prog 60 #[.slice a len cap] w
      fun e w' => e = .returned (.tuple #[.int .i64 ((runs 0 l).getD 0), .bool (runs 0 l).isSome]) ∧ Kp w w' := by
  have hm := hl.2.2.1
  have hc := hl.2.1
  unfold maxLen at hm
  have HO := Lib.hid hok; clear hok
  go_enter Try.func60, Try.ntmps60
  go_wp2_with fail
  refine (spNew_any _).mono ?_
  rintro e v3 ⟨rfl, hv3⟩
  have x0 : Blk v3 w.heap.size (met 0 false) 132 := by subst hv3; exact Blk.new _ _ _
  have k3 : Kp w v3 := by subst hv3; exact (by (repeat (first | with_reducible assumption | with_reducible exact Kp.refl _ | with_reducible refine Kp.drew ?_ | with_reducible refine Kp.drewN ?_ _ | with_reducible refine Kp.alloc ?_ _ | ((with_reducible refine Kp.setCell ?_ ?_ _); rotate_left; (focus (first | omega | (simp; done) | (simp; omega)))) | with_reducible refine Kp.trans ?_ (by assumption))))
  clear hv3
  go_wp2
  go_loopw [13] (fun v13 wr => ∃ (k : Nat) (s : Int), k ≤ len ∧ v13 = .int .i64 k ∧ Blk wr w.heap.size (met s false) 132 ∧ Kp w wr ∧ Hid (runs 0 (l.take k) = some s)) (fun v13 _ => len - (intOf v13).toNat)
  case atStart => exact ⟨0, 0, by omega, rfl, (by (repeat (first | with_reducible assumption | ((with_reducible refine Blk.newL ?_ ?_); (focus (first | (simp; done) | omega)); rfl) | with_reducible refine Blk.drew ?_ | with_reducible refine Blk.drewN ?_ _ | with_reducible refine Blk.alloc ?_ _ | ((with_reducible refine Blk.other ?_ ?_ _); rotate_left; (focus (first | with_reducible assumption | omega | (simp; done) | (simp; omega))))))), (by (repeat (first | with_reducible assumption | with_reducible exact Kp.refl _ | with_reducible refine Kp.drew ?_ | with_reducible refine Kp.drewN ?_ _ | with_reducible refine Kp.alloc ?_ _ | ((with_reducible refine Kp.setCell ?_ ?_ _); rotate_left; (focus (first | omega | (simp; done) | (simp; omega)))) | with_reducible refine Kp.trans ?_ (by assumption)))), rfl⟩
  case round =>
    clear x0 k3
    obtain ⟨k, s, hk, rfl, xs, xk, hs⟩ := hrel
    have xl := hl.kp xk
    have HL := Lib.hid xl.1
    by_cases hlt : k < len
    · obtain ⟨x, hx⟩ : ∃ x, l[k]? = some x := ⟨l[k]'(by rw [xl.1]; exact hlt), List.getElem?_eq_getElem _⟩
      have HX := Lib.hid hx; clear hx
      rcases xl.2.2.2 with e | ⟨b, off, rfl, hb, hrow⟩
      · exact absurd (by rw [← xl.1, e]; rfl) (Nat.ne_of_gt (Nat.lt_of_le_of_lt (Nat.zero_le k) hlt))
      · have c0 : wr.cell? ⟨b, off + k, none⟩ = some (.int .i64 x) := by
          have h := hrow k _ HX.out 0 _ rfl
          rw [Nat.mul_one] at h; exact h
        have HT := Lib.hid (take_snocI HX.out)
        have HXI := Lib.hid (HO.out _ (List.mem_of_getElem? HX.out))
        have HSI := Lib.hid (runs_i64 _ _ _ ⟨by decide, by decide⟩ hs.out)
        have hnext := runs_append (l.take k) x 0
        rw [hs.out, ← HT.out] at hnext
        simp only [Option.bind_some] at hnext
        have HN := Lib.hid hnext; clear hnext hrow
        go_wp2_with fail
        refine (byAdd_any _ _ _ _ xs HSI.out HXI.out).mono ?_
        rintro e w1 ⟨rfl, hw1⟩
        have b1 : Blk w1 w.heap.size (met (clip (s + x)) (!fits (s + x))) 132 := by subst hw1; exact (xs.set 0 _).set 1 _
        have k1 : Kp w w1 := by subst hw1; exact (by (repeat (first | with_reducible assumption | with_reducible exact Kp.refl _ | with_reducible refine Kp.drew ?_ | with_reducible refine Kp.drewN ?_ _ | with_reducible refine Kp.alloc ?_ _ | ((with_reducible refine Kp.setCell ?_ ?_ _); rotate_left; (focus (first | omega | (simp; done) | (simp; omega)))) | with_reducible refine Kp.trans ?_ (by assumption))))
        clear hw1 xs xk xl c0
        cases hf : fits (s + x) with
        | false =>
          have hn : runs 0 l = none := by
            have h1 := HN.out
            rw [hf] at h1
            have h2 := runs_none _ (l.drop (k + 1)) _ h1
            rwa [List.take_append_drop] at h2
          have HE : Hid (Ending.returned (.tuple #[.int .i64 0, .bool false]) = .returned (.tuple #[.int .i64 ((runs 0 l).getD 0), .bool (runs 0 l).isSome])) := by rw [hn]; rfl
          clear hn hf b1
          go_wp2
          go_ret2
          exact ⟨HE.out, (by (repeat (first | with_reducible assumption | with_reducible exact Kp.refl _ | with_reducible refine Kp.drew ?_ | with_reducible refine Kp.drewN ?_ _ | with_reducible refine Kp.alloc ?_ _ | ((with_reducible refine Kp.setCell ?_ ?_ _); rotate_left; (focus (first | omega | (simp; done) | (simp; omega)))) | with_reducible refine Kp.trans ?_ (by assumption))))⟩
        | true =>
          have HF := Lib.hid hf
          rw [clip_yes hf, hf] at b1
          clear hf
          go_wp2
          go_roundw
          case rel => exact ⟨k + 1, s + x, by omega, by go_num, b1, (by (repeat (first | with_reducible assumption | with_reducible exact Kp.refl _ | with_reducible refine Kp.drew ?_ | with_reducible refine Kp.drewN ?_ _ | with_reducible refine Kp.alloc ?_ _ | ((with_reducible refine Kp.setCell ?_ ?_ _); rotate_left; (focus (first | omega | (simp; done) | (simp; omega)))) | with_reducible refine Kp.trans ?_ (by assumption)))), by have h1 := HN.out; rw [HF.out, if_pos rfl] at h1; exact h1⟩
          case measure => simp [intOf]; omega
    · obtain rfl : k = len := by omega
      have hlast := hs.out
      rw [List.take_of_length_le (Nat.le_of_eq HL.out)] at hlast
      have HE : Hid (Ending.returned (.tuple #[.int .i64 s, .bool true]) = .returned (.tuple #[.int .i64 ((runs 0 l).getD 0), .bool (runs 0 l).isSome])) := by rw [hlast]; rfl
      clear hlast hs xl
      go_wp2_with fail
      refine (value_any _ s _ (xs.cell 0 rfl) (xs.cell 1 rfl)).mono ?_
      rintro e v6 ⟨rfl, h6⟩
      rw [h6]
      clear h6
      go_wp2
      go_ret2
      exact ⟨HE.out, (by (repeat (first | with_reducible assumption | with_reducible exact Kp.refl _ | with_reducible refine Kp.drew ?_ | with_reducible refine Kp.drewN ?_ _ | with_reducible refine Kp.alloc ?_ _ | ((with_reducible refine Kp.setCell ?_ ?_ _); rotate_left; (focus (first | omega | (simp; done) | (simp; omega)))) | with_reducible refine Kp.trans ?_ (by assumption))))⟩
end Go.Proofs.Yteipfamaclildaa
