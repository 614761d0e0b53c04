/- Shares: the smaller walks, and that the program reckons at all. -/
import Derived.Test.YteipfamaclildaaShAll

import Derived.Test.YteipfamaclildaaBits6

import Derived.Test.YteipfamaclildaaFld

import Derived.Deep.QuietTactic

import Derived.BigQuiet

namespace Go.Proofs.Yteipfamaclildaa

open Go.RowKit Go.Shelf

attribute [local go_sem] Oper.semAt_some

theorem shareAll_no (whole : Int) (a : Option Addr) (len cap : Nat) (l : List Int) (w : World) (hl : SlOk w 1 enc1 a len cap l) (hok : ∀ x, x ∈ l → I64 x) (hs : shOk whole l = false) :
    Calls Try.prog 25 #[.int .i64 whole, .slice a len cap] w fun e w' => e = .returned (.tuple #[.slice none 0 0, .bool false]) ∧ Kp w w' := by
  have cS := shareOf_any whole a len cap l w hl hok
  rw [shTot_no hs, hs] at cS
  clear hs hok hl
  refine calls_marks Try.func25 rfl ?_
  simp only [Try.ntmps25, List.size_toArray, List.length_cons, List.length_nil, Nat.reduceAdd, Nat.reduceSub, Array.replicate_succ, Array.replicate_zero, List.push_toArray, List.append_toArray, List.nil_append, List.cons_append]
  go_wp2_with fail
  refine cS.mono ?_
  rintro e w1 ⟨rfl, k1⟩
  go_wp2
  exact ⟨_, results_tmp2 rfl _ _ _, rfl, k1⟩
set_option maxHeartbeats 1000000 in
theorem same8_yes (a1 a2 : Option Addr) (c1 c2 : Nat) (L : List Int) (w : World) (h1 : SlOk w 1 enc1 a1 L.length c1 L) (h2 : SlOk w 1 enc1 a2 L.length c2 L) :
    Calls Try.prog 29 #[.slice a1 L.length c1, .slice a2 L.length c2] w fun e w' => e = .returned (.bool true) ∧ Kp w w' := by
  have hc1 := h1.2.1
  have hm1 := h1.2.2.1
  have hc2 := h2.2.1
  have hm2 := h2.2.2.1
  unfold maxLen at hm1 hm2
  have H1 := Lib.hid h1
  have H2 := Lib.hid h2
  clear h1 h2
  go_enter Try.func29, Try.ntmps29
  go_wp2
  go_loopw [5] (fun v5 wr => ∃ k : Nat, k ≤ L.length ∧ v5 = .int .i64 k ∧ Kp w wr) (fun v5 _ => L.length - (intOf v5).toNat)
  case atStart => exact ⟨0, Nat.zero_le _, rfl, (by (repeat (first | with_reducible assumption | with_reducible exact Kp.refl _ | with_reducible refine Kp.drew ?_ | with_reducible refine Kp.drewN ?_ _ | with_reducible refine Kp.alloc ?_ _ | ((with_reducible refine Kp.setCell ?_ ?_ _); rotate_left; (focus (first | omega | (simp; done) | (simp; omega)))) | with_reducible refine Kp.trans ?_ (by assumption))))⟩
  case round =>
    obtain ⟨k, hk, rfl, xk⟩ := hrel
    by_cases hlt : k < L.length
    · obtain ⟨x, hx⟩ : ∃ x, L[k]? = some x := ⟨L[k], List.getElem?_eq_getElem hlt⟩
      have g1' := H1.out.kp xk
      have g2' := H2.out.kp xk
      rcases g1'.2.2.2 with e | ⟨b, off, rfl, hb, hrow⟩
      · rw [e] at hx; simp at hx
      · rcases g2'.2.2.2 with e | ⟨b', off', rfl, hb', hrow'⟩
        · rw [e] at hx; simp at hx
        · have c0 := hrow k _ hx 0 _ rfl
          have d0 := hrow' k _ hx 0 _ rfl
          rw [Nat.add_zero, Nat.mul_one] at c0 d0
          clear hrow hrow' hx g1' g2'
          go_wp2
          go_quiet (fail)
          go_wp2
          go_roundw
          case rel => exact ⟨k + 1, by omega, by go_num, (by (repeat (first | with_reducible assumption | with_reducible exact Kp.refl _ | with_reducible refine Kp.drew ?_ | with_reducible refine Kp.drewN ?_ _ | with_reducible refine Kp.alloc ?_ _ | ((with_reducible refine Kp.setCell ?_ ?_ _); rotate_left; (focus (first | omega | (simp; done) | (simp; omega)))) | with_reducible refine Kp.trans ?_ (by assumption))))⟩
          case measure => simp [intOf]; omega
    · obtain rfl : k = L.length := by omega
      have j1 : decide ((L.length : Int) < (L.length : Int)) = false := decide_eq_false (by omega)
      go_wp2
      go_ret
      exact ⟨rfl, xk⟩
theorem SlOk.ofRow8 {α : Type} {n : Nat} {enc : α → List Value} {w : World} {b : Nat} {l : List α} {t : TypeId} (hn : ∀ x, (enc x).length = n) (h : Blk w b (l.flatMap enc) t) (hm : l.length ≤ maxLen) : SlOk w n enc (some ⟨b, 0, none⟩) l.length l.length l :=
  ⟨rfl, Nat.le_refl _, hm, .inr ⟨b, 0, rfl, h.lt, fun i x hx j v hv => by rw [Nat.zero_add]; exact h.cell (i * n + j) (flatMap_get hn l i x j v hx hv)⟩⟩
/-- What awake adds up. -/
def nS (pre : List (Fin 2)) : Int := (pre.map fun x => (x.val : Int) * shareAt 5 [0, 2] x.val).sum
theorem nS_snoc (pre : List (Fin 2)) (x : Fin 2) : nS (pre ++ [x]) = nS pre + (x.val : Int) * shareAt 5 [0, 2] x.val := by simp [nS]
theorem nS_bounds : ∀ pre : List (Fin 2), 0 ≤ nS pre ∧ nS pre ≤ 5 * pre.length
  | [] => by simp [nS]
  | x :: pre => by
    have h := nS_bounds pre
    have e : nS (x :: pre) = (x.val : Int) * shareAt 5 [0, 2] x.val + nS pre := by simp [nS]
    have hx : (x.val : Int) * shareAt 5 [0, 2] x.val = 0 ∨ (x.val : Int) * shareAt 5 [0, 2] x.val = 5 := by
      have := x.isLt
      rcases (by omega : x.val = 0 ∨ x.val = 1) with e | e
      · rw [e]; left; decide
      · rw [e]; right; decide
    rw [e, List.length_cons]
    push_cast
    omega

set_option maxRecDepth 100000 in
set_option maxHeartbeats 2000000 in
theorem shareAwake_any (w : World) : Calls Try.prog 24 #[] w fun e w' => e = .returned (.bool true) ∧ Kp w w' := by
  have v1 : shares 10 [1, 1, 1] = [3, 3, 4] := by decide
  have c1 := fun (a : Option Addr) (w : World) (h : SlOk w 1 enc1 a 3 3 [1, 1, 1]) => shareAll_any 10 a 3 3 [1, 1, 1] w ⟨by decide, by decide⟩ h (by intro x hx; simp at hx; subst hx; exact ⟨by decide, by decide⟩) (by decide) (by decide)
  rw [v1] at c1
  have C1 := Lib.hid c1
  clear c1 v1
  refine calls_marks Try.func24 rfl ?_
  simp only [Try.ntmps24, List.size_toArray, List.length_nil, Nat.reduceSub, Array.replicate_succ, Array.replicate_zero, List.push_toArray, List.append_toArray, List.nil_append, List.cons_append]
  go_wp2_with fail
  refine (C1.out (some ⟨w.heap.size, 0, none⟩) _ (SlOk.ofRow8 (t := 28) (fun _ => rfl) (by (repeat (first | with_reducible assumption | ((with_reducible refine Blk.newL ?_ ?_); (focus (first | (simp; done) | omega)); rfl) | with_reducible refine Blk.drew ?_ | with_reducible refine Blk.drewN ?_ _ | with_reducible refine Blk.alloc ?_ _ | ((with_reducible refine Blk.other ?_ ?_ _); rotate_left; (focus (first | with_reducible assumption | omega | (simp; done) | (simp; omega))))))) (by decide))).mono ?_
  rintro e w1 ⟨v, rfl, hr, k1⟩
  have x1 : Kp w w1 := Kp.trans ((by (repeat (first | with_reducible assumption | with_reducible exact Kp.refl _ | with_reducible refine Kp.drew ?_ | with_reducible refine Kp.drewN ?_ _ | with_reducible refine Kp.alloc ?_ _ | ((with_reducible refine Kp.setCell ?_ ?_ _); rotate_left; (focus (first | omega | (simp; done) | (simp; omega)))) | with_reducible refine Kp.trans ?_ (by assumption)))) : Kp w _) k1
  obtain ⟨a1, cap1, rfl, s1'⟩ := hr.sl (fun _ => rfl)
  clear hr k1
  go_wp2_with fail
  refine (same8_yes a1 (some ⟨w1.heap.size, 0, none⟩) cap1 3 [3, 3, 4] _ (s1'.kp (by (repeat (first | with_reducible assumption | with_reducible exact Kp.refl _ | with_reducible refine Kp.drew ?_ | with_reducible refine Kp.drewN ?_ _ | with_reducible refine Kp.alloc ?_ _ | ((with_reducible refine Kp.setCell ?_ ?_ _); rotate_left; (focus (first | omega | (simp; done) | (simp; omega)))) | with_reducible refine Kp.trans ?_ (by assumption))))) (SlOk.ofRow8 (t := 28) (l := [3, 3, 4]) (fun _ => rfl) (by (repeat (first | with_reducible assumption | ((with_reducible refine Blk.newL ?_ ?_); (focus (first | (simp; done) | omega)); rfl) | with_reducible refine Blk.drew ?_ | with_reducible refine Blk.drewN ?_ _ | with_reducible refine Blk.alloc ?_ _ | ((with_reducible refine Blk.other ?_ ?_ _); rotate_left; (focus (first | with_reducible assumption | omega | (simp; done) | (simp; omega))))))) (by decide))).mono ?_
  rintro e w2 ⟨rfl, k2⟩
  have x2 : Kp w w2 := (x1.alloc _).trans k2
  clear s1' x1 k2
  go_wp2_with fail
  refine (each_any 5 (some ⟨w2.heap.size + 1, 0, none⟩) 2 2 _).mono ?_
  rintro e w3 ⟨rfl, hw3⟩
  go_wp2
  clear hw3
  refine named_world (F := fun W => Blk W w2.heap.size [.int .i64 0] 28 ∧ Blk W (w2.heap.size + 1) [.int .i64 0, .int .i64 2] 28 ∧ Blk W (w2.heap.size + 2) [.int .i64 5] 28 ∧ Blk W (w2.heap.size + 3) [.slice (some ⟨w2.heap.size + 1, 0, none⟩) 2 2] 49 ∧ Kp w W ∧ w2.heap.size + 4 = W.heap.size) ⟨(by (repeat (first | with_reducible assumption | ((with_reducible refine Blk.newL ?_ ?_); (focus (first | (simp; done) | omega)); rfl) | with_reducible refine Blk.drew ?_ | with_reducible refine Blk.drewN ?_ _ | with_reducible refine Blk.alloc ?_ _ | ((with_reducible refine Blk.other ?_ ?_ _); rotate_left; (focus (first | with_reducible assumption | omega | (simp; done) | (simp; omega))))))), (by (repeat (first | with_reducible assumption | ((with_reducible refine Blk.newL ?_ ?_); (focus (first | (simp; done) | omega)); rfl) | with_reducible refine Blk.drew ?_ | with_reducible refine Blk.drewN ?_ _ | with_reducible refine Blk.alloc ?_ _ | ((with_reducible refine Blk.other ?_ ?_ _); rotate_left; (focus (first | with_reducible assumption | omega | (simp; done) | (simp; omega))))))), (by (repeat (first | with_reducible assumption | ((with_reducible refine Blk.newL ?_ ?_); (focus (first | (simp; done) | omega)); rfl) | with_reducible refine Blk.drew ?_ | with_reducible refine Blk.drewN ?_ _ | with_reducible refine Blk.alloc ?_ _ | ((with_reducible refine Blk.other ?_ ?_ _); rotate_left; (focus (first | with_reducible assumption | omega | (simp; done) | (simp; omega))))))), (by (repeat (first | with_reducible assumption | ((with_reducible refine Blk.newL ?_ ?_); (focus (first | (simp; done) | omega)); rfl) | with_reducible refine Blk.drew ?_ | with_reducible refine Blk.drewN ?_ _ | with_reducible refine Blk.alloc ?_ _ | ((with_reducible refine Blk.other ?_ ?_ _); rotate_left; (focus (first | with_reducible assumption | omega | (simp; done) | (simp; omega))))))), (by (repeat (first | with_reducible assumption | with_reducible exact Kp.refl _ | with_reducible refine Kp.drew ?_ | with_reducible refine Kp.drewN ?_ _ | with_reducible refine Kp.alloc ?_ _ | ((with_reducible refine Kp.setCell ?_ ?_ _); rotate_left; (focus (first | omega | (simp; done) | (simp; omega)))) | with_reducible refine Kp.trans ?_ (by assumption)))), by simp⟩ ?_
  rintro w4 ⟨bN, bL, bW, bP, k4, z4⟩
  have hw := x2.size
  have hbl : ∀ b, eachK (w2.heap.size + 2) (some ⟨w2.heap.size + 1, 0, none⟩) b → b ≠ w2.heap.size := by
    rintro b (rfl | ⟨off, sp, e⟩)
    · omega
    · cases e; omega
  clear x2
  refine wp_rangeE (K := eachK (w2.heap.size + 2) (some ⟨w2.heap.size + 1, 0, none⟩)) (w0 := w4) rfl (enters_of Try.func58 (by kernel_rfl) rfl)
    (each_stops 99 (by decide) (w2.heap.size + 2) (w2.heap.size + 3) 5 (some ⟨w2.heap.size + 1, 0, none⟩) 2 2 [0, 2] ⟨by decide, by decide⟩ (by intro x hx; simp at hx; rcases hx with rfl | rfl <;> exact ⟨by decide, by decide⟩) (by decide) w4 (bW.cell 0 rfl) (bP.cell 0 rfl) (SlOk.ofRow8 (l := [0, 2]) (fun _ => rfl) bL (by decide))) (Below.refl _ _) (fun _ => rfl)
    (fun pre W => Blk W w2.heap.size [.int .i64 (nS pre)] 28 ∧ Kp w W)
    (fun _ _ _ => False)
    (fun s A B row hs hg hr => ⟨hs.1.grown hg (fun r e => (hr r e).2), hs.2.grown2 hg k4.size (fun r e => (hr r e).1)⟩)
    (fun _ _ _ _ _ hs _ _ => hs)
    ⟨bN, k4⟩ ?frame ?done ?stop
  case frame =>
    apply Exists.intro
    refine ⟨?_, ?_⟩
    · intro lp x W K hK
      gi_wp2
      exact hK
    · rintro lp pre x W ⟨yb, yk⟩ hlt
      have hsn := nS_snoc pre x
      have hb := nS_bounds pre
      have hl2 : (pre.length : Int) ≤ 2 := by simp at hlt; omega
      have hxl := x.isLt
      simp only [List.length_cons, List.length_nil] at hxl
      obtain ⟨T, hT⟩ : ∃ T, nS pre = T := ⟨_, rfl⟩
      rw [hT] at yb hsn hb
      have hc := yb.cell 0 rfl
      have hf := yb.free 0
      have e0 : shareAt 5 [0, 2] 0 = 0 := by decide
      have e1 : shareAt 5 [0, 2] 1 = 5 := by decide
      have hx : x.val = 0 ∨ x.val = 1 := by omega
      clear hT hlt hxl
      rcases hx with hx | hx
      · rw [hx] at hsn ⊢
        rw [e0] at hsn ⊢
        have hsn2 : nS (pre ++ [x]) = T := by rw [hsn]; simp
        have HSN := Lib.hid hsn2
        clear hsn hsn2 e0 e1 hx
        gi_wp2
        exact ⟨KeepsOthers.setCell _ _ _, CK.set W hbl _, by rw [HSN.out]; exact yb.set 0 _, yk.setCell hw _⟩
      · rw [hx] at hsn ⊢
        rw [e1] at hsn ⊢
        have hsn2 : nS (pre ++ [x]) = T + 5 := by rw [hsn]; simp
        have HSN := Lib.hid hsn2
        clear hsn hsn2 e0 e1 hx
        gi_wp2
        exact ⟨KeepsOthers.setCell _ _ _, CK.set W hbl _, by rw [HSN.out]; exact yb.set 0 _, yk.setCell hw _⟩
  case done =>
    rintro D xs W hD rfl ⟨yb, yk⟩ hK
    have e : nS (firsts ([0, 2] : List Int).length ([0, 2] : List Int).length) = 5 := by decide
    rw [e] at yb
    clear e
    have hc := yb.cell 0 rfl
    go_wp2
    refine ⟨by simp, .inl ⟨_, _, rfl, run_takeDeferred hK, ?_⟩⟩
    exact ⟨_, results_tmp rfl _ _ _, rfl, yk.mark _ (by have := k4.size; omega) hK⟩
  case stop =>
    rintro D c pre W _ _ h _
    exact h.elim
/-- A place within a list. -/
def clampN (n : Int) (k : Nat) : Nat := (min (max n 0) (k : Int)).toNat
theorem clampN_le (n : Int) (k : Nat) : clampN n k ≤ k := by unfold clampN; omega
theorem share_pos {whole : Int} {l : List Int} (hs : shOk whole l = true) : 0 < l.length := by
  rcases Nat.eq_zero_or_pos l.length with e | e
  · have h1 := (shOk_iff.1 hs).2.2.2
    rw [List.eq_nil_of_length_eq_zero e] at h1
    simp at h1
  · exact e
theorem runs_take {whole : Int} {l : List Int} (hs : shOk whole l = true) (k : Nat) : runs 0 (l.take k) = some (l.take k).sum := by
  obtain ⟨h0, h1, h2, h3⟩ := shOk_iff.1 hs
  have ht := sum_take h1 k
  rw [runs_pos _ 0 (by decide) (by decide) (fun x hx => h1 x (List.mem_of_mem_take hx)), Int.zero_add, if_pos (by omega)]
theorem shareUp_no (whole n : Int) (a : Option Addr) (len cap : Nat) (l : List Int) (w : World) (hl : SlOk w 1 enc1 a len cap l) (hok : ∀ x, x ∈ l → I64 x) (hs : shOk whole l = false) :
    Calls Try.prog 30 #[.int .i64 whole, .slice a len cap, .int .i64 n] w fun e w' => e = .returned (.tuple #[.int .i64 0, .bool false]) ∧ Kp w w' := by
  have cS := shareOf_any whole a len cap l w hl hok
  rw [shTot_no hs, hs] at cS
  clear hs hok hl
  go_enter Try.func30, Try.ntmps30
  go_wp2_with fail
  refine cS.mono ?_
  rintro e w1 ⟨rfl, k1⟩
  go_wp2
  go_ret2
  exact ⟨rfl, k1⟩
set_option maxRecDepth 100000 in
set_option maxHeartbeats 1000000 in
theorem shareUp_any (whole n : Int) (a : Option Addr) (len cap : Nat) (l : List Int) (w : World) (hwb : I64 whole) (hl : SlOk w 1 enc1 a len cap l) (hok : ∀ x, x ∈ l → I64 x) (hs : shOk whole l = true) :
    Calls Try.prog 30 #[.int .i64 whole, .slice a len cap, .int .i64 n] w fun e w' => e = .returned (.tuple #[.int .i64 (upAt whole l (clampN n len)), .bool true]) ∧ Kp w w' := by
  have cS := shareOf_any whole a len cap l w hl hok
  rw [shTot_yes hs, hs] at cS
  have hKl := clampN_le n len
  have hcap := hl.2.1
  have hmx := hl.2.2.1
  unfold maxLen at hmx
  have cT := fun (w' : World) (k : Kp w w') => spSum_any a (clampN n len) cap (l.take (clampN n len)) w' ((hl.kp k).take hKl) (fun x hx => hok x (List.mem_of_mem_take hx))
  rw [runs_take hs (clampN n len)] at cT
  obtain ⟨h0, h1, h2, h3⟩ := shOk_iff.1 hs
  have hst := sum_take h1 (clampN n len)
  have hru := ratio_up hs hwb.2 (clampN n len)
  have cR := fun w => ratio_any whole (l.take (clampN n len)).sum l.sum w hwb ⟨by omega, by omega⟩ ⟨by omega, by omega⟩
  rw [hru.1] at cR
  simp only [Option.getD_some, Option.isSome_some] at cT cR
  have hpos := share_pos hs
  rw [hl.1] at hpos
  obtain ⟨S, hS⟩ : ∃ S, (l.take (clampN n len)).sum = S := ⟨_, rfl⟩
  obtain ⟨U, hU⟩ : ∃ S, upAt whole l (clampN n len) = S := ⟨_, rfl⟩
  rw [hS] at cT cR
  rw [hU] at cR ⊢
  unfold clampN at cT hKl
  have CT := Lib.hid cT
  have CR := Lib.hid cR
  rcases hl.2.2.2 with e | ⟨b, off, rfl, hb, hrow⟩
  · have := hl.1; rw [e] at this; simp at this; omega
  · clear cT cR hst hru hs hok hl hrow h1 h2 h3 hS hU
    go_enter Try.func30, Try.ntmps30
    go_wp2_with fail
    refine cS.mono ?_
    rintro e w1 ⟨rfl, k1⟩
    go_wp2_with fail
    refine (CT.out _ k1).mono ?_
    rintro e w2 ⟨rfl, k2⟩
    go_wp2_with fail
    refine (CR.out _).mono ?_
    rintro e w3 ⟨rfl, k3⟩
    go_wp2
    go_ret2
    exact ⟨rfl, (k1.trans k2).trans k3⟩
end Go.Proofs.Yteipfamaclildaa
