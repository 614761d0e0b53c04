/- Numbers of 128 bits, bit by bit: doubled, subtracted, held against one another. -/
import Derived.Test.YteipfamaclildaaBits

namespace Go.Proofs.Yteipfamaclildaa

open Go.RowKit

/-- What the loop of 'up' has made when it stands at bit k: the bits above k. -/
def upF (f : Nat → Bool) (k : Nat) : Nat → Bool := fun j => decide (k < j) && f (j - 1)
theorem upF_top (f : Nat → Bool) : bitsF (fun _ => false) = bitsF (upF f 127) := bitsF_congr fun j hj => by
  unfold upF
  have : ¬ 127 < j := by omega
  simp [this]
theorem upF_succ (f : Nat → Bool) (k : Nat) : (fun j => if j = k + 1 then f k else upF f (k + 1) j) = upF f k := by
  funext j
  unfold upF
  by_cases e : j = k + 1
  · subst e; simp
  · have : (k + 1 < j) ↔ k < j := by omega
    simp [e, this]
theorem up_bits (a : Nat) (one : Bool) : (fun j => if j = 0 then one else upF a.testBit 0 j) = (2 * a + nat01 one).testBit := by
  funext j
  cases j with
  | zero => cases one <;> simp [nat01, Nat.testBit_zero] <;> omega
  | succ j =>
    rw [if_neg (Nat.succ_ne_zero j), Nat.testBit_succ]
    have : (2 * a + nat01 one) / 2 = a := by cases one <;> simp [nat01] <;> omega
    rw [this]
    unfold upF; simp

set_option maxRecDepth 100000 in
set_option maxHeartbeats 2000000 in
theorem refUp_any (a : Nat) (one : Bool) (w : World) : Calls Try.prog 81 #[.agg (nmC a).toArray, .bool one] w
    fun e w' => e = .returned (.agg (nmC (2 * a + nat01 one)).toArray) ∧ Kp w w' := by
  unfold nmC
  rw [← up_bits]
  go_enter Try.func81, Try.ntmps81
  go_wp2_with fail
  rw [zeros67]
  go_loopw [6] (fun v6 wr => ∃ k : Nat, k ≤ 127 ∧ v6 = .int .i64 k ∧ Blk wr w.heap.size (bitsF a.testBit) 96 ∧ Blk wr (w.heap.size + 1) (bitsF fun _ => false) 96 ∧ Blk wr (w.heap.size + 1 + 1) (bitsF (upF a.testBit k)) 96 ∧ Kp w wr) (fun v6 _ => (intOf v6).toNat)
  case atStart => exact ⟨127, by omega, rfl, (by (repeat (first | with_reducible assumption | ((with_reducible refine Blk.newL ?_ ?_); (focus (first | (simp; done) | omega)); rfl) | with_reducible refine Blk.drew ?_ | with_reducible refine Blk.drewN ?_ _ | with_reducible refine Blk.alloc ?_ _ | ((with_reducible refine Blk.other ?_ ?_ _); rotate_left; (focus (first | with_reducible assumption | omega | (simp; done) | (simp; omega))))))), (by (repeat (first | with_reducible assumption | ((with_reducible refine Blk.newL ?_ ?_); (focus (first | (simp; done) | omega)); rfl) | with_reducible refine Blk.drew ?_ | with_reducible refine Blk.drewN ?_ _ | with_reducible refine Blk.alloc ?_ _ | ((with_reducible refine Blk.other ?_ ?_ _); rotate_left; (focus (first | with_reducible assumption | omega | (simp; done) | (simp; omega))))))), by rw [← upF_top]; exact (by (repeat (first | with_reducible assumption | ((with_reducible refine Blk.newL ?_ ?_); (focus (first | (simp; done) | omega)); rfl) | with_reducible refine Blk.drew ?_ | with_reducible refine Blk.drewN ?_ _ | with_reducible refine Blk.alloc ?_ _ | ((with_reducible refine Blk.other ?_ ?_ _); rotate_left; (focus (first | with_reducible assumption | omega | (simp; done) | (simp; omega))))))), (by (repeat (first | with_reducible assumption | with_reducible exact Kp.refl _ | with_reducible refine Kp.drew ?_ | with_reducible refine Kp.drewN ?_ _ | with_reducible refine Kp.alloc ?_ _ | ((with_reducible refine Kp.setCell ?_ ?_ _); rotate_left; (focus (first | omega | (simp; done) | (simp; omega)))) | with_reducible refine Kp.trans ?_ (by assumption))))⟩
  case round =>
    obtain ⟨k, hk, rfl, xa, xr, xo, xk⟩ := hrel
    cases k with
    | succ k =>
      have c0 := xa.bool k (by omega)
      have f0 := xo.free (k + 1)
      have c2 := xo.bool (k + 1) (by omega)
      go_wp2
      go_roundw
      case rel =>
        refine ⟨k, by omega, by go_num, (by (repeat (first | with_reducible assumption | ((with_reducible refine Blk.newL ?_ ?_); (focus (first | (simp; done) | omega)); rfl) | with_reducible refine Blk.drew ?_ | with_reducible refine Blk.drewN ?_ _ | with_reducible refine Blk.alloc ?_ _ | ((with_reducible refine Blk.other ?_ ?_ _); rotate_left; (focus (first | with_reducible assumption | omega | (simp; done) | (simp; omega))))))), (by (repeat (first | with_reducible assumption | ((with_reducible refine Blk.newL ?_ ?_); (focus (first | (simp; done) | omega)); rfl) | with_reducible refine Blk.drew ?_ | with_reducible refine Blk.drewN ?_ _ | with_reducible refine Blk.alloc ?_ _ | ((with_reducible refine Blk.other ?_ ?_ _); rotate_left; (focus (first | with_reducible assumption | omega | (simp; done) | (simp; omega))))))), ?_, (by (repeat (first | with_reducible assumption | with_reducible exact Kp.refl _ | with_reducible refine Kp.drew ?_ | with_reducible refine Kp.drewN ?_ _ | with_reducible refine Kp.alloc ?_ _ | ((with_reducible refine Kp.setCell ?_ ?_ _); rotate_left; (focus (first | omega | (simp; done) | (simp; omega)))) | with_reducible refine Kp.trans ?_ (by assumption))))⟩
        rw [← upF_succ, ← bitsF_set]; exact xo.set (k + 1) _
      case measure => simp [intOf]
    | zero =>
      have f0 := xo.free 0
      have c2 := xo.bool 0 (by omega)
      have yo := xo.set 0 (.bool one)
      rw [bitsF_set] at yo
      have yr := xr.other (a := ⟨w.heap.size + 1 + 1, 0, none⟩) (by simp) (.bool one)
      go_wp2_with ((refine ld67 ?gd (.tmp 5) ?ho yo ?hx ?_; (case gd => rfl); (case ho => rfl); (case hx => rfl)); (refine st67 (g := (fun j => if j = 0 then one else upF a.testBit 0 j)) ?gd (.tmp 4) (.tmp 22) ?ho yr ?hx ?hy ?_; (case gd => rfl); (case ho => rfl); (case hx => rfl); (case hy => rfl)); refine Hid.out ?_)
      refine Lib.hid (end_ret (by assumption) ?_)
      refine ret_blk (Blk.num yr) ?hr ?hd ?_; (case hr => intro wz bz; exact ret_cell67 Try.results81 rfl bz); (case hd => rfl)
      exact ⟨rfl, (by (repeat (first | with_reducible assumption | with_reducible exact Kp.refl _ | with_reducible refine Kp.drew ?_ | with_reducible refine Kp.drewN ?_ _ | with_reducible refine Kp.alloc ?_ _ | ((with_reducible refine Kp.setCell ?_ ?_ _); rotate_left; (focus (first | omega | (simp; done) | (simp; omega)))) | ((with_reducible refine Kp.setCells ?_ _ _ _ ?_); (focus (first | omega | (simp; done) | (simp; omega)))) | with_reducible refine Kp.trans ?_ (by assumption))))⟩

theorem div_half (a k : Nat) : a / 2 ^ k = 2 * (a / 2 ^ (k + 1)) + nat01 (a.testBit k) := by
  rw [nat01_testBit, Nat.pow_succ, ← Nat.div_div_eq_div_mul]; omega
theorem div_top {a : Nat} (h : a < 2 ^ 128) : a / 2 ^ 128 = 0 := Nat.div_eq_of_lt h
theorem less_at {a b k : Nat} (h : a / 2 ^ k < b / 2 ^ k) : a < b := Nat.lt_of_not_le fun hl => Nat.not_le_of_lt h (Nat.div_le_div_right hl)
theorem less_yes {a b k m : Nat} {lt : Bool} (h : Hid (decide (a < b) = lt)) (h1 : a / 2 ^ k = 2 * m + nat01 false) (h2 : b / 2 ^ k = 2 * m + nat01 true) : lt = true := by
  rw [← h.out]; exact decide_eq_true (less_at (k := k) (by rw [h1, h2]; simp [nat01]))
theorem less_no {a b k m : Nat} {lt : Bool} (h : Hid (decide (a < b) = lt)) (h1 : a / 2 ^ k = 2 * m + nat01 true) (h2 : b / 2 ^ k = 2 * m + nat01 false) : lt = false := by
  rw [← h.out]; exact decide_eq_false (Nat.not_lt_of_lt (less_at (k := k) (by rw [h1, h2]; simp [nat01])))
set_option maxRecDepth 100000 in
set_option maxHeartbeats 2000000 in
theorem refLess_any (a b : Nat) (ha : a < 2 ^ 128) (hb : b < 2 ^ 128) (w : World) : Calls Try.prog 82 #[.agg (nmC a).toArray, .agg (nmC b).toArray] w
    fun e w' => e = .returned (.bool (decide (a < b))) ∧ Kp w w' := by
  have ht : a / 2 ^ 128 = b / 2 ^ 128 := by rw [div_top ha, div_top hb]
  have HT := Lib.hid ht
  clear ha hb ht
  obtain ⟨lt, hlt⟩ : ∃ lt, decide (a < b) = lt := ⟨_, rfl⟩
  rw [hlt]
  have HLT := Lib.hid hlt
  clear hlt
  go_enter Try.func82, Try.ntmps82
  go_wp2_with fail
  go_loopw [5] (fun v5 wr => ∃ k : Nat, k ≤ 128 ∧ v5 = .int .i64 ((k : Int) - 1) ∧ Blk wr w.heap.size (bitsF a.testBit) 96 ∧ Blk wr (w.heap.size + 1) (bitsF b.testBit) 96 ∧ Kp w wr ∧ Hid (a / 2 ^ k = b / 2 ^ k)) (fun v5 _ => (intOf v5 + 1).toNat)
  case atStart => exact ⟨128, by omega, rfl, (by (repeat (first | with_reducible assumption | ((with_reducible refine Blk.newL ?_ ?_); (focus (first | (simp; done) | omega)); rfl) | with_reducible refine Blk.drew ?_ | with_reducible refine Blk.drewN ?_ _ | with_reducible refine Blk.alloc ?_ _ | ((with_reducible refine Blk.other ?_ ?_ _); rotate_left; (focus (first | with_reducible assumption | omega | (simp; done) | (simp; omega))))))), (by (repeat (first | with_reducible assumption | ((with_reducible refine Blk.newL ?_ ?_); (focus (first | (simp; done) | omega)); rfl) | with_reducible refine Blk.drew ?_ | with_reducible refine Blk.drewN ?_ _ | with_reducible refine Blk.alloc ?_ _ | ((with_reducible refine Blk.other ?_ ?_ _); rotate_left; (focus (first | with_reducible assumption | omega | (simp; done) | (simp; omega))))))), (by (repeat (first | with_reducible assumption | with_reducible exact Kp.refl _ | with_reducible refine Kp.drew ?_ | with_reducible refine Kp.drewN ?_ _ | with_reducible refine Kp.alloc ?_ _ | ((with_reducible refine Kp.setCell ?_ ?_ _); rotate_left; (focus (first | omega | (simp; done) | (simp; omega)))) | with_reducible refine Kp.trans ?_ (by assumption)))), HT.out⟩
  case round =>
    clear HT
    obtain ⟨k, hk, rfl, xa, xb, xk, hd⟩ := hrel
    cases k with
    | succ k =>
      rw [show ((k + 1 : Nat) : Int) - 1 = (k : Int) by omega]
      have c0 := xa.bool k (by omega)
      have c1 := xb.bool k (by omega)
      have h1 := div_half a k
      have h2 := div_half b k
      cases hp : a.testBit k
      all_goals
        cases hq : b.testBit k
        all_goals
          rw [hp] at c0 h1
          rw [hq] at c1 h2
          have H1 := Lib.hid h1
          have H2 := Lib.hid h2
          clear h1 h2 hp hq
          go_wp2
          go_quiet (fail)
          go_wp2
          first
            | (go_roundw
               case rel => exact ⟨k, by omega, rfl, (by (repeat (first | with_reducible assumption | ((with_reducible refine Blk.newL ?_ ?_); (focus (first | (simp; done) | omega)); rfl) | with_reducible refine Blk.drew ?_ | with_reducible refine Blk.drewN ?_ _ | with_reducible refine Blk.alloc ?_ _ | ((with_reducible refine Blk.other ?_ ?_ _); rotate_left; (focus (first | with_reducible assumption | omega | (simp; done) | (simp; omega))))))), (by (repeat (first | with_reducible assumption | ((with_reducible refine Blk.newL ?_ ?_); (focus (first | (simp; done) | omega)); rfl) | with_reducible refine Blk.drew ?_ | with_reducible refine Blk.drewN ?_ _ | with_reducible refine Blk.alloc ?_ _ | ((with_reducible refine Blk.other ?_ ?_ _); rotate_left; (focus (first | with_reducible assumption | omega | (simp; done) | (simp; omega))))))), (by (repeat (first | with_reducible assumption | with_reducible exact Kp.refl _ | with_reducible refine Kp.drew ?_ | with_reducible refine Kp.drewN ?_ _ | with_reducible refine Kp.alloc ?_ _ | ((with_reducible refine Kp.setCell ?_ ?_ _); rotate_left; (focus (first | omega | (simp; done) | (simp; omega)))) | with_reducible refine Kp.trans ?_ (by assumption)))), Lib.hid (by rw [H1.out, H2.out, hd.out])⟩
               case measure => simp [intOf])
            | (go_ret
               refine ⟨?_, (by (repeat (first | with_reducible assumption | with_reducible exact Kp.refl _ | with_reducible refine Kp.drew ?_ | with_reducible refine Kp.drewN ?_ _ | with_reducible refine Kp.alloc ?_ _ | ((with_reducible refine Kp.setCell ?_ ?_ _); rotate_left; (focus (first | omega | (simp; done) | (simp; omega)))) | with_reducible refine Kp.trans ?_ (by assumption))))⟩
               first
                 | (rw [less_yes HLT H1.out (by rw [H2.out, hd.out])]; rfl)
                 | (rw [less_no HLT H1.out (by rw [H2.out, hd.out])]; rfl))
    | zero =>
      have he : lt = false := by
        rw [← HLT.out]
        have h := hd.out
        rw [Nat.pow_zero, Nat.div_one, Nat.div_one] at h
        rw [h]; simp
      go_wp2
      go_ret
      exact ⟨by rw [he]; rfl, (by (repeat (first | with_reducible assumption | with_reducible exact Kp.refl _ | with_reducible refine Kp.drew ?_ | with_reducible refine Kp.drewN ?_ _ | with_reducible refine Kp.alloc ?_ _ | ((with_reducible refine Kp.setCell ?_ ?_ _); rotate_left; (focus (first | omega | (simp; done) | (simp; omega)))) | with_reducible refine Kp.trans ?_ (by assumption))))⟩

/-- The borrow below bit k. -/
def borrow (a b k : Nat) : Bool := decide (a % 2 ^ k < b % 2 ^ k)
theorem borrow_zero (a b : Nat) : borrow a b 0 = false := by unfold borrow; simp [Nat.mod_one]
theorem borrow_plain {P x y p q : Nat} (hx : x < P) (hy : y < P) (hp : p < 2) (hq : q < 2) : (x + P * p < y + P * q) ↔ p < q + (if x < y then 1 else 0) := by
  have h1 : p = 0 ∨ p = 1 := by omega
  have h2 : q = 0 ∨ q = 1 := by omega
  rcases h1 with rfl | rfl <;> rcases h2 with rfl | rfl <;> split <;> omega
theorem borrow_succ (a b k : Nat) : borrow a b (k + 1) = decide (nat01 (a.testBit k) < nat01 (b.testBit k) + nat01 (borrow a b k)) := by
  have h := borrow_plain (Nat.mod_lt a (Nat.two_pow_pos k)) (Nat.mod_lt b (Nat.two_pow_pos k)) (Nat.mod_lt (a / 2 ^ k) (show 0 < 2 by decide)) (Nat.mod_lt (b / 2 ^ k) (show 0 < 2 by decide))
  rw [nat01_testBit, nat01_testBit]
  unfold borrow
  rw [Nat.mod_pow_succ, Nat.mod_pow_succ]
  rw [Bool.eq_iff_iff]
  simp only [decide_eq_true_eq]
  rw [h]
  unfold nat01
  simp only [decide_eq_true_eq]
theorem sub_plain {P a b p q x y : Nat} (ha : a = p * P + x) (hb : b = q * P + y) (hx : x < P) (hy : y < P) (hba : b ≤ a) : (a - b) / P = p - q - (if x < y then 1 else 0) ∧ q + (if x < y then 1 else 0) ≤ p := by
  obtain ⟨c, hc⟩ : ∃ c, (if x < y then 1 else 0) = c := ⟨_, rfl⟩
  rw [hc]
  have hle : q + c ≤ p := by
    apply Nat.le_of_not_lt
    intro hlt
    have h1 : (p + 1) * P ≤ (q + c) * P := Nat.mul_le_mul_right P (by omega)
    rw [Nat.add_mul, Nat.add_mul, Nat.one_mul] at h1
    split at hc
    · subst hc; rw [Nat.one_mul] at h1
      omega
    · subst hc; rw [Nat.zero_mul] at h1
      omega
  refine ⟨?_, hle⟩
  have h2 : (q + c) * P ≤ p * P := Nat.mul_le_mul_right P hle
  rw [Nat.add_mul] at h2
  apply Nat.div_eq_of_lt_le
  · rw [Nat.sub_mul, Nat.sub_mul]
    split at hc
    · subst hc; rw [Nat.one_mul] at h2 ⊢; omega
    · subst hc; rw [Nat.zero_mul] at h2 ⊢; omega
  · rw [Nat.add_mul, Nat.sub_mul, Nat.sub_mul, Nat.one_mul]
    split at hc
    · subst hc; rw [Nat.one_mul] at h2 ⊢; omega
    · subst hc; rw [Nat.zero_mul] at h2 ⊢; omega
theorem sub_bit (a b k : Nat) (h : b ≤ a) : (a - b).testBit k = (a.testBit k != (b.testBit k != borrow a b k)) := by
  have hP := Nat.two_pow_pos k
  have h1 := sub_plain (a := a) (b := b) (p := a / 2 ^ k) (q := b / 2 ^ k) (x := a % 2 ^ k) (y := b % 2 ^ k) (by rw [Nat.mul_comm]; exact (Nat.div_add_mod a _).symm) (by rw [Nat.mul_comm]; exact (Nat.div_add_mod b _).symm) (Nat.mod_lt _ hP) (Nat.mod_lt _ hP) h
  have ha := nat01_testBit a k
  have hb := nat01_testBit b k
  have e : (if a % 2 ^ k < b % 2 ^ k then 1 else 0) = nat01 (borrow a b k) := by unfold nat01 borrow; simp only [decide_eq_true_eq]
  rw [e] at h1
  rw [Nat.testBit_eq_decide_div_mod_eq, h1.1]
  have h2 := h1.2
  clear h1 e
  generalize a / 2 ^ k = p at *
  generalize b / 2 ^ k = q at *
  generalize borrow a b k = c at *
  generalize a.testBit k = s at *
  generalize b.testBit k = t at *
  clear h hP
  rw [Bool.eq_iff_iff, decide_eq_true_eq]
  cases s <;> cases t <;> cases c <;> simp [nat01] at * <;> omega

set_option maxRecDepth 100000 in
set_option maxHeartbeats 2000000 in
theorem refMinus_any (a b : Nat) (hba : b ≤ a) (w : World) : Calls Try.prog 83 #[.agg (nmC a).toArray, .agg (nmC b).toArray] w
    fun e w' => e = .returned (.agg (nmC (a - b)).toArray) ∧ Kp w w' := by
  have HBA := Lib.hid hba
  clear hba
  go_enter Try.func83, Try.ntmps83
  go_wp2_with fail
  rw [zeros67]
  go_loopw [6, 7] (fun v6 v7 wr => ∃ k : Nat, k ≤ 128 ∧ v7 = .int .i64 k ∧ v6 = .bool (borrow a b k) ∧ Blk wr w.heap.size (nmC a) 96 ∧ Blk wr (w.heap.size + 1) (nmC b) 96 ∧ Blk wr (w.heap.size + 1 + 1) (bitsF fun _ => false) 96 ∧ Blk wr (w.heap.size + 1 + 1 + 1) (bitsF (lowF (a - b).testBit k)) 96 ∧ Kp w wr) (fun _ v7 _ => 128 - (intOf v7).toNat)
  case atStart => exact ⟨0, by omega, rfl, by rw [borrow_zero], (by (repeat (first | with_reducible assumption | ((with_reducible refine Blk.newL ?_ ?_); (focus (first | (simp; done) | omega)); rfl) | with_reducible refine Blk.drew ?_ | with_reducible refine Blk.drewN ?_ _ | with_reducible refine Blk.alloc ?_ _ | ((with_reducible refine Blk.other ?_ ?_ _); rotate_left; (focus (first | with_reducible assumption | omega | (simp; done) | (simp; omega))))))), (by (repeat (first | with_reducible assumption | ((with_reducible refine Blk.newL ?_ ?_); (focus (first | (simp; done) | omega)); rfl) | with_reducible refine Blk.drew ?_ | with_reducible refine Blk.drewN ?_ _ | with_reducible refine Blk.alloc ?_ _ | ((with_reducible refine Blk.other ?_ ?_ _); rotate_left; (focus (first | with_reducible assumption | omega | (simp; done) | (simp; omega))))))), (by (repeat (first | with_reducible assumption | ((with_reducible refine Blk.newL ?_ ?_); (focus (first | (simp; done) | omega)); rfl) | with_reducible refine Blk.drew ?_ | with_reducible refine Blk.drewN ?_ _ | with_reducible refine Blk.alloc ?_ _ | ((with_reducible refine Blk.other ?_ ?_ _); rotate_left; (focus (first | with_reducible assumption | omega | (simp; done) | (simp; omega))))))), by rw [← lowF_zero]; exact (by (repeat (first | with_reducible assumption | ((with_reducible refine Blk.newL ?_ ?_); (focus (first | (simp; done) | omega)); rfl) | with_reducible refine Blk.drew ?_ | with_reducible refine Blk.drewN ?_ _ | with_reducible refine Blk.alloc ?_ _ | ((with_reducible refine Blk.other ?_ ?_ _); rotate_left; (focus (first | with_reducible assumption | omega | (simp; done) | (simp; omega))))))), (by (repeat (first | with_reducible assumption | with_reducible exact Kp.refl _ | with_reducible refine Kp.drew ?_ | with_reducible refine Kp.drewN ?_ _ | with_reducible refine Kp.alloc ?_ _ | ((with_reducible refine Kp.setCell ?_ ?_ _); rotate_left; (focus (first | omega | (simp; done) | (simp; omega)))) | with_reducible refine Kp.trans ?_ (by assumption))))⟩
  case round =>
    obtain ⟨k, hk, rfl, rfl, xa, xb, xs, xo, xk⟩ := hrel
    by_cases hlt : k < 128
    · have c0 := xa.bool k hlt
      have c1 := xb.bool k hlt
      have f0 := xo.free k
      have c2 := xo.bool k hlt
      have hs := borrow_succ a b k
      have hb := sub_bit a b k HBA.out
      cases hc : borrow a b k
      all_goals
        cases hp : a.testBit k
        all_goals
          cases hq : b.testBit k
          all_goals
            rw [hp] at c0 hs hb
            rw [hq] at c1 hs hb
            rw [hc] at hs hb
            have HS := Lib.hid hs
            have HB := Lib.hid hb
            clear hs hb hp hq hc
            go_wp2
            go_roundw
            case rel =>
              refine ⟨k + 1, by omega, by go_num, ?_, (by (repeat (first | with_reducible assumption | ((with_reducible refine Blk.newL ?_ ?_); (focus (first | (simp; done) | omega)); rfl) | with_reducible refine Blk.drew ?_ | with_reducible refine Blk.drewN ?_ _ | with_reducible refine Blk.alloc ?_ _ | ((with_reducible refine Blk.other ?_ ?_ _); rotate_left; (focus (first | with_reducible assumption | omega | (simp; done) | (simp; omega))))))), (by (repeat (first | with_reducible assumption | ((with_reducible refine Blk.newL ?_ ?_); (focus (first | (simp; done) | omega)); rfl) | with_reducible refine Blk.drew ?_ | with_reducible refine Blk.drewN ?_ _ | with_reducible refine Blk.alloc ?_ _ | ((with_reducible refine Blk.other ?_ ?_ _); rotate_left; (focus (first | with_reducible assumption | omega | (simp; done) | (simp; omega))))))), (by (repeat (first | with_reducible assumption | ((with_reducible refine Blk.newL ?_ ?_); (focus (first | (simp; done) | omega)); rfl) | with_reducible refine Blk.drew ?_ | with_reducible refine Blk.drewN ?_ _ | with_reducible refine Blk.alloc ?_ _ | ((with_reducible refine Blk.other ?_ ?_ _); rotate_left; (focus (first | with_reducible assumption | omega | (simp; done) | (simp; omega))))))), ?_, (by (repeat (first | with_reducible assumption | with_reducible exact Kp.refl _ | with_reducible refine Kp.drew ?_ | with_reducible refine Kp.drewN ?_ _ | with_reducible refine Kp.alloc ?_ _ | ((with_reducible refine Kp.setCell ?_ ?_ _); rotate_left; (focus (first | omega | (simp; done) | (simp; omega)))) | with_reducible refine Kp.trans ?_ (by assumption))))⟩
              · rw [HS.out]; rfl
              · rw [← lowF_succ, ← bitsF_set, HB.out]; exact xo.set k _
            case measure => simp [intOf]; omega
    · obtain rfl : k = 128 := by omega
      have hv : nmC (a - b) = bitsF (lowF (a - b).testBit 128) := bitsF_congr fun j hj => by unfold lowF; simp [hj]
      go_wp2_with ((refine ld67 ?gd (.tmp 5) ?ho xo ?hx ?_; (case gd => rfl); (case ho => rfl); (case hx => rfl)); (refine st67 (g := (lowF (a - b).testBit 128)) ?gd (.tmp 4) (.tmp 37) ?ho xs ?hx ?hy ?_; (case gd => rfl); (case ho => rfl); (case hx => rfl); (case hy => rfl)); refine Hid.out ?_)
      refine Lib.hid (end_ret (by assumption) ?_)
      refine ret_blk (Blk.num xs) ?hr ?hd ?_; (case hr => intro wz bz; exact ret_cell67 Try.results83 rfl bz); (case hd => rfl)
      exact ⟨by rw [hv], (by (repeat (first | with_reducible assumption | with_reducible exact Kp.refl _ | with_reducible refine Kp.drew ?_ | with_reducible refine Kp.drewN ?_ _ | with_reducible refine Kp.alloc ?_ _ | ((with_reducible refine Kp.setCell ?_ ?_ _); rotate_left; (focus (first | omega | (simp; done) | (simp; omega)))) | ((with_reducible refine Kp.setCells ?_ _ _ _ ?_); (focus (first | omega | (simp; done) | (simp; omega)))) | with_reducible refine Kp.trans ?_ (by assumption))))⟩
end Go.Proofs.Yteipfamaclildaa
