/- Share by share: the iterator's contract. -/
import Derived.Test.YteipfamaclildaaShare

import Derived.Test.YteipfamaclildaaRange

namespace Go.Proofs.Yteipfamaclildaa

open Go.RowKit Go.Shelf

attribute [local go_sem] Oper.semAt_some

theorem each_any (whole : Int) (a : Option Addr) (len cap : Nat) (w : World) :
    Calls Try.prog 28 #[.int .i64 whole, .slice a len cap] w fun e w' => e = .returned (.func (.func 58) #[] #[.pointer (some ⟨w.heap.size, 0, none⟩), .pointer (some ⟨w.heap.size + 1, 0, none⟩)]) ∧
      w' = (w.alloc (.cells #[.int .i64 whole] 28)).alloc (.cells #[.slice a len cap] 49) := by
  go_enter Try.func28, Try.ntmps28
  go_wp2
  go_ret
  exact ⟨rfl, rfl⟩

/-- What an iterator over shares reads between two rounds. -/
def eachK (B : Nat) (a : Option Addr) (b : Nat) : Prop := b = B ∨ ∃ off sp, a = some ⟨b, off, sp⟩

set_option maxRecDepth 100000 in
set_option maxHeartbeats 2000000 in
theorem each1_in (n : Nat) (hn : 1 ≤ n) (lp Bw Bp : Nat) (whole : Int) (a : Option Addr) (len cap : Nat) (l : List Int) (hwb : I64 whole) (hok : ∀ x, x ∈ l → I64 x) (hs : shOk whole l = true) (J Jx : List (Fin l.length) → World → Prop) {B : Nat} (hJ : AbidesFrom B J)
    (hY : ∀ pre (x : Fin l.length) W1, J pre W1 → pre.length < l.length → YieldAt Fence.wide (n - 1) Try.prog lp #[.int .i64 (x.val : Int), .int .i64 (shareAt whole l x.val)] W1 fun e W' =>
      (e = .returned (.bool true) ∧ J (pre ++ [x]) W' ∧ CK (eachK Bw a) W1 W') ∨ (e = .returned (.bool false) ∧ Jx (pre ++ [x]) W'))
    (W : World) (hBw : W.cell? ⟨Bw, 0, none⟩ = some (.int .i64 whole)) (hBp : W.cell? ⟨Bp, 0, none⟩ = some (.slice a len cap)) (hl : SlOk W 1 enc1 a len cap l) (h0 : J [] W) :
    CallsIn Fence.wide n Try.prog 58 #[.func (.yield lp) #[] #[], .pointer (some ⟨Bw, 0, none⟩), .pointer (some ⟨Bp, 0, none⟩)] W fun e W' => (∃ v, e = .returned v) ∧
      ((∃ ys, ys = firsts l.length l.length ∧ J ys W') ∨ (∃ pre, (∃ k, k ≤ l.length ∧ pre = firsts l.length k) ∧ Jx pre W')) := by
  have cS := fun w' (k : Kp W w') => shareOf_any whole a len cap l w' (hl.kp k) hok
  rw [shTot_yes hs, hs] at cS
  have CS := Lib.hid cS
  have hlen := hl.1
  have hcap := hl.2.1
  have hmx := hl.2.2.1
  unfold maxLen at hmx
  obtain ⟨hp0, hp1, hp2, hp3⟩ := shOk_iff.1 hs
  subst hlen
  have HS := Lib.hid hs
  have HP1 := Lib.hid hp1
  have HWB := Lib.hid hwb
  clear cS hs hp1 hok hwb
  refine callsIn_of_wp Try.func58 rfl trivial ?_ rfl
  simp only [Try.ntmps58, List.size_toArray, List.length_cons, List.length_nil, Nat.reduceAdd, Nat.reduceSub, Array.replicate_succ, Array.replicate_zero, List.push_toArray, List.append_toArray, List.nil_append, List.cons_append]
  gi_wp2_with fail
  refine ⟨trivial, (callsIn_wide.2 (CS.out _ (Kp.refl _))).mono ?_⟩
  rintro e W1 ⟨rfl, k1⟩
  have hBw1 := Kp.ck (K := fun _ => True) k1 _ _ trivial hBw
  have hBp1 := Kp.ck (K := fun _ => True) k1 _ _ trivial hBp
  have J1 := abide hJ h0 k1
  have l1 := hl.kp k1
  clear hBw hBp h0 hl k1 CS
  gi_wp2
  gi_loopw [6, 7, 22] (fun v6 v7 v22 wr => ∃ k : Nat, k ≤ l.length ∧ v22 = .int .i64 k ∧ v6 = .int .i64 (l.take k).sum ∧ v7 = .int .i64 (upAt whole l k) ∧ J (firsts l.length k) wr ∧ CK (eachK Bw a) W1 wr) (fun _ _ v22 _ => l.length - (intOf v22).toNat)
  case atStart => exact ⟨0, Nat.zero_le _, rfl, by simp, by rw [upAt_zero], by rw [firsts_zero]; exact J1, CK.refl _ _⟩
  case round =>
    obtain ⟨k, hk, rfl, rfl, rfl, hJs, hck⟩ := hrel
    have hBw2 := hck _ _ (.inl rfl) hBw1
    have hst := sum_take HP1.out k
    have hru := ratio_up HS.out HWB.out.2 k
    by_cases hlt : k < l.length
    · obtain ⟨x, hx⟩ : ∃ x, l[k]? = some x := ⟨l[k], List.getElem?_eq_getElem hlt⟩
      have hx0 := HP1.out x (List.mem_of_getElem? hx)
      have hsu := sum_succ hx
      have hst2 := sum_take HP1.out (k + 1)
      have hru2 := ratio_up HS.out HWB.out.2 (k + 1)
      have hmo := upAt_mono HS.out k
      have cR := fun w => ratio_any whole (l.take (k + 1)).sum l.sum w HWB.out ⟨by omega, by omega⟩ ⟨by omega, by omega⟩
      rw [hru2.1] at cR
      have hYk := fun w => hY (firsts l.length k) ⟨k, hlt⟩ w
      rw [← firsts_succ hlt] at hYk
      unfold shareAt at hYk
      rw [hsu] at cR hst2
      obtain ⟨S, hS⟩ : ∃ S, (l.take k).sum = S := ⟨_, rfl⟩
      obtain ⟨U, hU⟩ : ∃ S, upAt whole l k = S := ⟨_, rfl⟩
      obtain ⟨V, hV⟩ : ∃ S, upAt whole l (k + 1) = S := ⟨_, rfl⟩
      simp only [Option.getD_some, Option.isSome_some, hU, hV] at cR hYk
      rw [hS] at cR hst2
      rw [hU, hV] at hmo
      rw [hS] at hst ⊢
      rw [hU] at hru
      rw [hV] at hru2
      obtain ⟨_, hu0, hu1⟩ := hru
      obtain ⟨_, hv0, hv1⟩ := hru2
      have hw1 := HWB.out.2
      rw [hS] at hsu
      have HSU := Lib.hid hsu
      have HV := Lib.hid hV
      have CR := Lib.hid cR
      have HYK := Lib.hid hYk
      rcases l1.2.2.2 with e | ⟨b, off, rfl, hb, hrow⟩
      · rw [e] at hlt; simp at hlt
      · have c0 : wr.cell? ⟨b, off + k, none⟩ = some (.int .i64 x) := by
          have h := hrow k x hx 0 _ rfl
          rw [Nat.mul_one] at h; exact hck _ _ (.inr ⟨off, none, rfl⟩) h
        rw [hU]
        clear hsu hV cR hYk hrow hS hU hx l1 hY
        gi_wp2_with fail
        refine ⟨trivial, (callsIn_wide.2 (CR.out _)).mono ?_⟩
        rintro e W2 ⟨rfl, k2⟩
        obtain ⟨fn, tmps, assign, body, hy, hR⟩ := HYK.out W2 (abide hJ hJs k2) (by rw [firsts_length (by omega)]; exact hlt)
        (try dsimp only at hy)
        clear HYK c0 CR
        gi_wp2
        refine hR.mono ?_
        rintro e W3 (⟨rfl, hJ3, hk3⟩ | ⟨rfl, hJx3⟩)
        · gi_wp2
          go_roundw
          case rel => exact ⟨k + 1, by omega, by go_num, by rw [HSU.out], by rw [HV.out], hJ3, (hck.trans k2.ck).trans hk3⟩
          case measure => simp [intOf]; omega
        · gi_wp2
          refine bodyPost_ret (results_none rfl _ _ _) rfl ?_
          exact ⟨⟨_, rfl⟩, .inr ⟨_, ⟨k + 1, by omega, rfl⟩, hJx3⟩⟩
    · obtain rfl : k = l.length := by omega
      gi_wp2
      go_end0
      exact ⟨⟨_, rfl⟩, .inl ⟨_, rfl, hJs⟩⟩

theorem each_stops (n : Nat) (hn : 1 ≤ n) (Bw Bp : Nat) (whole : Int) (a : Option Addr) (len cap : Nat) (l : List Int) (hwb : I64 whole) (hok : ∀ x, x ∈ l → I64 x) (hs : shOk whole l = true) (w : World)
    (hBw : w.cell? ⟨Bw, 0, none⟩ = some (.int .i64 whole)) (hBp : w.cell? ⟨Bp, 0, none⟩ = some (.slice a len cap)) (hl : SlOk w 1 enc1 a len cap l) :
    SeqStopsK Fence.wide n Try.prog 58 #[.pointer (some ⟨Bw, 0, none⟩), .pointer (some ⟨Bp, 0, none⟩)] (fun x : Fin l.length => #[.int .i64 (x.val : Int), .int .i64 (shareAt whole l x.val)])
      (CK (eachK Bw a)) (fun xs => xs = firsts l.length l.length) (fun pre => ∃ k, k ≤ l.length ∧ pre = firsts l.length k) l.length w := fun lp J Jx W hW hJ _ hY h0 =>
  each1_in n hn lp Bw Bp whole a len cap l hwb hok hs J Jx hJ hY W (Kp.ck (K := fun _ => True) hW _ _ trivial hBw) (Kp.ck (K := fun _ => True) hW _ _ trivial hBp) (hl.kp hW) h0
set_option maxRecDepth 100000 in
set_option maxHeartbeats 2000000 in
theorem each_none (n : Nat) (hn : 1 ≤ n) (Bw Bp : Nat) (whole : Int) (a : Option Addr) (len cap : Nat) (l : List Int) (hok : ∀ x, x ∈ l → I64 x) (hs : shOk whole l = false) (w : World)
    (hBw : w.cell? ⟨Bw, 0, none⟩ = some (.int .i64 whole)) (hBp : w.cell? ⟨Bp, 0, none⟩ = some (.slice a len cap)) (hl : SlOk w 1 enc1 a len cap l) :
    SeqStopsK Fence.wide n Try.prog 58 #[.pointer (some ⟨Bw, 0, none⟩), .pointer (some ⟨Bp, 0, none⟩)] (fun x : Fin l.length => #[.int .i64 (x.val : Int), .int .i64 (shareAt whole l x.val)])
      (CK (eachK Bw a)) (fun xs => xs = []) (fun _ => False) 0 w := fun lp J Jx W hW hJ _ _ h0 => by
  have hBw' := Kp.ck (K := fun _ => True) hW _ _ trivial hBw
  have hBp' := Kp.ck (K := fun _ => True) hW _ _ trivial hBp
  have cS := shareOf_any whole a len cap l W (hl.kp hW) hok
  rw [shTot_no hs, hs] at cS
  have HJ := Lib.hid hJ
  have H0 := Lib.hid h0
  clear hs hok hl hBw hBp hW hJ h0
  refine callsIn_of_wp Try.func58 rfl trivial ?_ rfl
  simp only [Try.ntmps58, List.size_toArray, List.length_cons, List.length_nil, Nat.reduceAdd, Nat.reduceSub, Array.replicate_succ, Array.replicate_zero, List.push_toArray, List.append_toArray, List.nil_append, List.cons_append]
  gi_wp2_with fail
  refine ⟨trivial, (callsIn_wide.2 cS).mono ?_⟩
  rintro e W1 ⟨rfl, k1⟩
  gi_wp2
  refine bodyPost_ret (results_none rfl _ _ _) rfl ?_
  exact ⟨⟨_, rfl⟩, .inl ⟨_, rfl, abide HJ.out H0.out k1⟩⟩
end Go.Proofs.Yteipfamaclildaa
