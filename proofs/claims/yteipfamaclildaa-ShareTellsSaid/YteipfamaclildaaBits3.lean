/- Numbers of 128 bits: both words. -/
import Derived.Test.YteipfamaclildaaBits2

import Derived.Laws.BitsAllLaws

namespace Go.Proofs.Yteipfamaclildaa

open Go.RowKit

theorem or_pow {a k : Nat} (hk : k < 64) (ha : a < 2 ^ k) : Go.bits BinOp.or IntKind.u64 (a : Int) (IntKind.u64.wrap (2 ^ k)) = ((2 ^ k + a : Nat) : Int) ∧ 2 ^ k + a < 2 ^ (k + 1) := by
  have hp : 2 ^ k < 2 ^ 64 := Nat.pow_lt_pow_right (by decide) hk
  have h1 : IntKind.u64.wrap (2 ^ k) = ((2 ^ k : Nat) : Int) := by
    have e : ((2 ^ k : Nat) : Int) = (2 : Int) ^ k := by push_cast; rfl
    rw [← e, IntKind.wrap_u64]
    generalize 2 ^ k = P at *
    omega
  rw [h1, u64_or_nat _ _ (by generalize 2 ^ k = P at *; omega) (by generalize 2 ^ k = P at *; omega)]
  constructor
  · congr 1
    have := Nat.two_pow_add_eq_or_of_lt ha 1
    rw [Nat.mul_one] at this
    rw [this, Nat.or_comm]
  · rw [Nat.pow_succ]; omega
theorem mod_step (x k : Nat) : x % 2 ^ (k + 1) = 2 ^ k * nat01 (x.testBit k) + x % 2 ^ k := by
  rw [Nat.mod_pow_succ, nat01_testBit, Nat.add_comm]
theorem high_bit (n k : Nat) : (n / 2 ^ 64).testBit k = n.testBit (64 + k) := by
  rw [Nat.testBit_div_two_pow, Nat.add_comm]

set_option maxRecDepth 100000 in
set_option maxHeartbeats 2000000 in
theorem refWords_any (n : Nat) (hn : n < 2 ^ 128) (w : World) : Calls Try.prog 57 #[.agg (nmC n).toArray] w
    fun e w' => e = .returned (.agg #[.int .u64 (n / 2 ^ 64 : Nat), .int .u64 (n % 2 ^ 64 : Nat)]) ∧ Kp w w' := by
  have HN := Lib.hid hn
  clear hn
  go_enter Try.func57, Try.ntmps57
  go_wp2_with fail
  go_loopw [4] (fun v4 wr => ∃ (k a b : Nat), k ≤ 64 ∧ v4 = .int .i64 k ∧ Blk wr w.heap.size (bitsF n.testBit) 96 ∧ Blk wr (w.heap.size + 1) [.int .u64 0, .int .u64 0] 93 ∧ Blk wr (w.heap.size + 1 + 1) [.int .u64 a, .int .u64 b] 93 ∧ Kp w wr ∧ Hid (a = n / 2 ^ 64 % 2 ^ k ∧ b = n % 2 ^ k)) (fun v4 _ => 64 - (intOf v4).toNat)
  case atStart => exact ⟨0, 0, 0, by omega, rfl, (by (repeat (first | with_reducible assumption | ((with_reducible refine Blk.newL ?_ ?_); (focus (first | (simp; done) | omega)); rfl) | with_reducible refine Blk.drew ?_ | with_reducible refine Blk.drewN ?_ _ | with_reducible refine Blk.alloc ?_ _ | ((with_reducible refine Blk.other ?_ ?_ _); rotate_left; (focus (first | with_reducible assumption | omega | (simp; done) | (simp; omega))))))), (by (repeat (first | with_reducible assumption | ((with_reducible refine Blk.newL ?_ ?_); (focus (first | (simp; done) | omega)); rfl) | with_reducible refine Blk.drew ?_ | with_reducible refine Blk.drewN ?_ _ | with_reducible refine Blk.alloc ?_ _ | ((with_reducible refine Blk.other ?_ ?_ _); rotate_left; (focus (first | with_reducible assumption | omega | (simp; done) | (simp; omega))))))), (by (repeat (first | with_reducible assumption | ((with_reducible refine Blk.newL ?_ ?_); (focus (first | (simp; done) | omega)); rfl) | with_reducible refine Blk.drew ?_ | with_reducible refine Blk.drewN ?_ _ | with_reducible refine Blk.alloc ?_ _ | ((with_reducible refine Blk.other ?_ ?_ _); rotate_left; (focus (first | with_reducible assumption | omega | (simp; done) | (simp; omega))))))), (by (repeat (first | with_reducible assumption | with_reducible exact Kp.refl _ | with_reducible refine Kp.drew ?_ | with_reducible refine Kp.drewN ?_ _ | with_reducible refine Kp.alloc ?_ _ | ((with_reducible refine Kp.setCell ?_ ?_ _); rotate_left; (focus (first | omega | (simp; done) | (simp; omega)))) | with_reducible refine Kp.trans ?_ (by assumption)))), Lib.hid ⟨by simp [Nat.mod_one], by simp [Nat.mod_one]⟩⟩
  case round =>
    obtain ⟨k, a, b, hk, rfl, xa, xr, xo, xk, hd⟩ := hrel
    by_cases hlt : k < 64
    · have c0 := xa.bool k (by omega)
      have c1 := xa.bool (64 + k) (by omega)
      have d0 := xo.cell 0 rfl
      have d1 := xo.cell 1 rfl
      have f0 := xo.free 0; have f1 := xo.free 1
      obtain ⟨hda, hdb⟩ := hd.out
      have ha := or_pow (a := a) hlt (by rw [hda]; exact Nat.mod_lt _ (Nat.two_pow_pos k))
      have hb := or_pow (a := b) hlt (by rw [hdb]; exact Nat.mod_lt _ (Nat.two_pow_pos k))
      obtain ⟨a2, ea⟩ : ∃ a2, 2 ^ k + a = a2 := ⟨_, rfl⟩
      obtain ⟨b2, eb⟩ : ∃ b2, 2 ^ k + b = b2 := ⟨_, rfl⟩
      rw [ea] at ha
      rw [eb] at hb
      have ha' := ha.1
      have hb' := hb.1
      have sa := mod_step (n / 2 ^ 64) k
      have sb := mod_step n k
      rw [high_bit, ← hda] at sa
      rw [← hdb] at sb
      clear ha hb hd hda hdb
      cases hp : n.testBit k
      all_goals
        cases hq : n.testBit (64 + k)
        all_goals
          rw [hp] at c0 sb
          rw [hq] at c1 sa
          have SA := Lib.hid sa
          have SB := Lib.hid sb
          have EA := Lib.hid ea
          have EB := Lib.hid eb
          clear sa sb ea eb hp hq
          go_wp2
          all_goals try (go_region_with (fail))
          all_goals try go_wp2
          all_goals try (go_region_with (fail))
          all_goals try go_wp2
          first
            | (refine ⟨⟨k + 1, a, b, by omega, by go_num, (by (repeat (first | with_reducible assumption | ((with_reducible refine Blk.newL ?_ ?_); (focus (first | (simp; done) | omega)); rfl) | with_reducible refine Blk.drew ?_ | with_reducible refine Blk.drewN ?_ _ | with_reducible refine Blk.alloc ?_ _ | ((with_reducible refine Blk.other ?_ ?_ _); rotate_left; (focus (first | with_reducible assumption | omega | (simp; done) | (simp; omega))))))), (by (repeat (first | with_reducible assumption | ((with_reducible refine Blk.newL ?_ ?_); (focus (first | (simp; done) | omega)); rfl) | with_reducible refine Blk.drew ?_ | with_reducible refine Blk.drewN ?_ _ | with_reducible refine Blk.alloc ?_ _ | ((with_reducible refine Blk.other ?_ ?_ _); rotate_left; (focus (first | with_reducible assumption | omega | (simp; done) | (simp; omega))))))), xo, (by (repeat (first | with_reducible assumption | with_reducible exact Kp.refl _ | with_reducible refine Kp.drew ?_ | with_reducible refine Kp.drewN ?_ _ | with_reducible refine Kp.alloc ?_ _ | ((with_reducible refine Kp.setCell ?_ ?_ _); rotate_left; (focus (first | omega | (simp; done) | (simp; omega)))) | with_reducible refine Kp.trans ?_ (by assumption)))), ?h⟩, by simp [intOf]; omega⟩)
            | (refine ⟨⟨k + 1, a2, b, by omega, by go_num, (by (repeat (first | with_reducible assumption | ((with_reducible refine Blk.newL ?_ ?_); (focus (first | (simp; done) | omega)); rfl) | with_reducible refine Blk.drew ?_ | with_reducible refine Blk.drewN ?_ _ | with_reducible refine Blk.alloc ?_ _ | ((with_reducible refine Blk.other ?_ ?_ _); rotate_left; (focus (first | with_reducible assumption | omega | (simp; done) | (simp; omega))))))), (by (repeat (first | with_reducible assumption | ((with_reducible refine Blk.newL ?_ ?_); (focus (first | (simp; done) | omega)); rfl) | with_reducible refine Blk.drew ?_ | with_reducible refine Blk.drewN ?_ _ | with_reducible refine Blk.alloc ?_ _ | ((with_reducible refine Blk.other ?_ ?_ _); rotate_left; (focus (first | with_reducible assumption | omega | (simp; done) | (simp; omega))))))), (xo.set 0 _).drew, (by (repeat (first | with_reducible assumption | with_reducible exact Kp.refl _ | with_reducible refine Kp.drew ?_ | with_reducible refine Kp.drewN ?_ _ | with_reducible refine Kp.alloc ?_ _ | ((with_reducible refine Kp.setCell ?_ ?_ _); rotate_left; (focus (first | omega | (simp; done) | (simp; omega)))) | with_reducible refine Kp.trans ?_ (by assumption)))), ?h⟩, by simp [intOf]; omega⟩)
            | (refine ⟨⟨k + 1, a, b2, by omega, by go_num, (by (repeat (first | with_reducible assumption | ((with_reducible refine Blk.newL ?_ ?_); (focus (first | (simp; done) | omega)); rfl) | with_reducible refine Blk.drew ?_ | with_reducible refine Blk.drewN ?_ _ | with_reducible refine Blk.alloc ?_ _ | ((with_reducible refine Blk.other ?_ ?_ _); rotate_left; (focus (first | with_reducible assumption | omega | (simp; done) | (simp; omega))))))), (by (repeat (first | with_reducible assumption | ((with_reducible refine Blk.newL ?_ ?_); (focus (first | (simp; done) | omega)); rfl) | with_reducible refine Blk.drew ?_ | with_reducible refine Blk.drewN ?_ _ | with_reducible refine Blk.alloc ?_ _ | ((with_reducible refine Blk.other ?_ ?_ _); rotate_left; (focus (first | with_reducible assumption | omega | (simp; done) | (simp; omega))))))), (xo.set 1 _).drew, (by (repeat (first | with_reducible assumption | with_reducible exact Kp.refl _ | with_reducible refine Kp.drew ?_ | with_reducible refine Kp.drewN ?_ _ | with_reducible refine Kp.alloc ?_ _ | ((with_reducible refine Kp.setCell ?_ ?_ _); rotate_left; (focus (first | omega | (simp; done) | (simp; omega)))) | with_reducible refine Kp.trans ?_ (by assumption)))), ?h⟩, by simp [intOf]; omega⟩)
            | (refine ⟨⟨k + 1, a2, b2, by omega, by go_num, (by (repeat (first | with_reducible assumption | ((with_reducible refine Blk.newL ?_ ?_); (focus (first | (simp; done) | omega)); rfl) | with_reducible refine Blk.drew ?_ | with_reducible refine Blk.drewN ?_ _ | with_reducible refine Blk.alloc ?_ _ | ((with_reducible refine Blk.other ?_ ?_ _); rotate_left; (focus (first | with_reducible assumption | omega | (simp; done) | (simp; omega))))))), (by (repeat (first | with_reducible assumption | ((with_reducible refine Blk.newL ?_ ?_); (focus (first | (simp; done) | omega)); rfl) | with_reducible refine Blk.drew ?_ | with_reducible refine Blk.drewN ?_ _ | with_reducible refine Blk.alloc ?_ _ | ((with_reducible refine Blk.other ?_ ?_ _); rotate_left; (focus (first | with_reducible assumption | omega | (simp; done) | (simp; omega))))))), ((xo.set 1 _).set 0 _).drew.drew, (by (repeat (first | with_reducible assumption | with_reducible exact Kp.refl _ | with_reducible refine Kp.drew ?_ | with_reducible refine Kp.drewN ?_ _ | with_reducible refine Kp.alloc ?_ _ | ((with_reducible refine Kp.setCell ?_ ?_ _); rotate_left; (focus (first | omega | (simp; done) | (simp; omega)))) | with_reducible refine Kp.trans ?_ (by assumption)))), ?h⟩, by simp [intOf]; omega⟩)
          case h =>
            refine Lib.hid ⟨?_, ?_⟩
            · first
                | (rw [SA.out, ← EA.out]; simp [nat01]; done)
                | (rw [SA.out]; simp [nat01]; done)
            · first
                | (rw [SB.out, ← EB.out]; simp [nat01]; done)
                | (rw [SB.out]; simp [nat01]; done)
    · obtain rfl : k = 64 := by omega
      have hv : a = n / 2 ^ 64 ∧ b = n % 2 ^ 64 := by
        obtain ⟨h1, h2⟩ := hd.out
        refine ⟨?_, h2⟩
        rw [h1]
        exact Nat.mod_eq_of_lt (Nat.div_lt_of_lt_mul (by have := HN.out; rw [← Nat.pow_add]; exact this))
      obtain ⟨hv1, hv2⟩ := hv
      have HE : Ending.returned (.agg #[.int .u64 a, .int .u64 b]) = .returned (.agg #[.int .u64 (n / 2 ^ 64 : Nat), .int .u64 (n % 2 ^ 64 : Nat)]) := by rw [hv1, hv2]
      clear hv1 hv2
      have d0 := xo.cell 0 rfl; have d1 := xo.cell 1 rfl
      have f0 := xr.free 0; have f1 := xr.free 1
      have g0 := xr.cell 0 rfl; have g1 := xr.cell 1 rfl
      go_wp2
      refine ret_blk (vs := [.int .u64 a, .int .u64 b]) (Blk.set (Blk.set xr 0 _) 1 _) ?_ rfl ⟨HE, (by (repeat (first | with_reducible assumption | with_reducible exact Kp.refl _ | with_reducible refine Kp.drew ?_ | with_reducible refine Kp.drewN ?_ _ | with_reducible refine Kp.alloc ?_ _ | ((with_reducible refine Kp.setCell ?_ ?_ _); rotate_left; (focus (first | omega | (simp; done) | (simp; omega)))) | with_reducible refine Kp.trans ?_ (by assumption))))⟩; intro wz bz; have z0 := bz.cell 0 rfl; have z1 := bz.cell 1 rfl; simp [results, Try.results57, go_sem, z0, z1]
end Go.Proofs.Yteipfamaclildaa
