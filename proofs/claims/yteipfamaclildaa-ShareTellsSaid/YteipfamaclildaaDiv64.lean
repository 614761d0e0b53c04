/- math/bits.Div64: the walk. -/
import Derived.Test.YteipfamaclildaaShelf

import Derived.Test.YteipfamaclildaaDivA

import Derived.Test.YteipfamaclildaaHeld

import Derived.IntWalk

import Derived.Deep.CutBlock

import Derived.Laws.Bits64b

namespace Go.Proofs.Yteipfamaclildaa

open Go.RowKit

theorem bitLenAux_bounds : ∀ f x : Nat, 0 < x → x < 2 ^ f → 1 ≤ Lib.bitLenAux f x ∧ Lib.bitLenAux f x ≤ f ∧ 2 ^ (Lib.bitLenAux f x - 1) ≤ x ∧ x < 2 ^ Lib.bitLenAux f x := by
  intro f
  induction f with
  | zero => intro x h h'; simp at h'; omega
  | succ f ih =>
    intro x h h'
    have hx : x ≠ 0 := by omega
    simp only [Lib.bitLenAux, if_neg hx]
    by_cases h1 : x / 2 = 0
    · have : x = 1 := by omega
      subst this
      have e : Lib.bitLenAux f (1 / 2) = 0 := by cases f <;> rfl
      rw [e]; simp
    · obtain ⟨a, b, c, d⟩ := ih (x / 2) (by omega) (by rw [Nat.pow_succ] at h'; omega)
      generalize Lib.bitLenAux f (x / 2) = k at *
      obtain ⟨j, rfl⟩ : ∃ j, k = j + 1 := ⟨k - 1, by omega⟩
      have e : 1 + (j + 1) - 1 = (j + 1) := by omega
      have e2 : 1 + (j + 1) = (j + 1) + 1 := by omega
      simp only [Nat.add_sub_cancel] at c
      refine ⟨by omega, by omega, ?_, ?_⟩
      · rw [e, Nat.pow_succ]; omega
      · rw [e2, Nat.pow_succ]; omega
/-- How far a number is to be moved so that its highest bit is the word's. -/
theorem lead {y : Nat} (hy : 0 < y) (hyb : y < 18446744073709551616) : ∃ s : Nat, (64 : Int) - (Lib.bitLen y : Int) = s ∧ s ≤ 63 ∧ 9223372036854775808 ≤ y * 2 ^ s ∧ y * 2 ^ s < 18446744073709551616 := by
  obtain ⟨a, b, c, d⟩ := bitLenAux_bounds 64 y hy hyb
  unfold Lib.bitLen
  generalize Lib.bitLenAux 64 y = k at *
  refine ⟨64 - k, by omega, by omega, ?_, ?_⟩
  · have h := Nat.mul_le_mul_right (2 ^ (64 - k)) c
    rw [← Nat.pow_add, show k - 1 + (64 - k) = 63 by omega] at h
    exact h
  · have h := Nat.mul_lt_mul_of_pos_right d (Nat.two_pow_pos (64 - k))
    rw [← Nat.pow_add, show k + (64 - k) = 64 by omega] at h
    exact h
theorem wrapN {a : Int} {b : Nat} (h : a % 18446744073709551616 = (b : Int)) : IntKind.u64.wrap a = (b : Int) := by rw [IntKind.wrap_u64]; omega
theorem wrapIn {a : Nat} (h : a < 18446744073709551616) : IntKind.u64.wrap (a : Int) = (a : Int) := by rw [IntKind.wrap_u64]; omega
theorem wrapPow {a s b : Nat} (h : a * 2 ^ s % 18446744073709551616 = b) : IntKind.u64.wrap ((a : Int) * 2 ^ s) = (b : Int) := by
  refine wrapN ?_
  have e : (a : Int) * 2 ^ s = ((a * 2 ^ s : Nat) : Int) := by push_cast; rfl
  rw [e]; omega
theorem divPow {a t b : Nat} (h : a / 2 ^ t = b) : (a : Int) / 2 ^ t = (b : Int) := by
  have e : (a : Int) / 2 ^ t = ((a / 2 ^ t : Nat) : Int) := by push_cast; rfl
  rw [e, h]
theorem maskN {a b : Nat} (ha : a < 18446744073709551616) (h : a % 4294967296 = b) : bits .and .u64 (a : Int) 4294967295 = (b : Int) := by rw [Mul64.maskN a ha, h]
theorem orN {a b s : Nat} (hb : b < 2 ^ s) (h : a * 2 ^ s + b < 18446744073709551616) : bits .or .u64 ((a * 2 ^ s : Nat) : Int) (b : Int) = ((a * 2 ^ s + b : Nat) : Int) := by
  rw [bits_or_u64_nat _ _ (by omega) (by omega)]
  rw [Nat.mul_comm a, Nat.two_pow_add_eq_or_of_lt hb]
theorem mulW {a b c : Nat} (h : a * b = c) (hc : c < 18446744073709551616) : IntKind.u64.wrap ((a : Int) * (b : Int)) = (c : Int) := by
  subst h; rw [← Int.natCast_mul]; exact wrapIn hc
theorem quoN {a b c : Nat} (h : a / b = c) : (a : Int).tdiv (b : Int) = (c : Int) := by rw [← Int.ofNat_tdiv, h]
theorem quoE {a b c : Nat} (h : a / b = c) : (a : Int) / (b : Int) = (c : Int) := by rw [← Int.natCast_ediv, h]

set_option maxHeartbeats 1000000 in
theorem div64_zero (lo y : Nat) (hy : 0 < y) (w : World) (hyb : y < 18446744073709551616) (hlo : lo < 18446744073709551616) :
    Calls Try.prog 94 #[.int .u64 0, .int .u64 lo, .int .u64 y] w fun e w' => e = .returned (.tuple #[.int .u64 ((lo / y : Nat) : Int), .int .u64 ((lo % y : Nat) : Int)]) ∧ Kp w w' := by
  have h1 : ((y : Int) == 0) = false := by rw [beq_eq_false_iff_ne]; omega
  have h2 : decide ((y : Int) ≤ 0) = false := by rw [decide_eq_false_iff_not]; omega
  have h3 : y ≠ 0 := by omega
  have h4 : IntKind.u64.wrap ((lo : Int) / (y : Int)) = ((lo / y : Nat) : Int) := by
    rw [← Int.natCast_ediv]; exact wrapIn (Nat.lt_of_le_of_lt (Nat.div_le_self _ _) hlo)
  have h5 : (lo : Int).tmod (y : Int) = ((lo % y : Nat) : Int) := by rw [Int.ofNat_tmod]
  go_enter Try.func94, Try.ntmps94
  go_wp2
  (refine wp_region_held_drew (S := (fun w' => (∀ b o, b < w.heap.size → w'.cell? ⟨b, o, none⟩ = w.cell? ⟨b, o, none⟩) ∧ Kp w w')) (by kernel_rfl) ?_ (fun hHd => ?_); (focus ((try dsimp only); (first | with_reducible assumption | with_reducible exact held_start _ | with_reducible exact held_next (by assumption) (by assumption) | with_reducible exact held_alloc (by assumption) _ | with_reducible exact held_drew (by assumption) | ((with_reducible refine held_kp ?_); (repeat (first | with_reducible assumption | with_reducible exact Kp.refl _ | with_reducible refine Kp.drew ?_ | with_reducible refine Kp.drewN ?_ _ | with_reducible refine Kp.alloc ?_ _ | ((with_reducible refine Kp.setCell ?_ ?_ _); rotate_left; (focus (first | omega | (simp; done) | (simp; omega)))) | with_reducible refine Kp.trans ?_ (by assumption))))))))
  (refine takeH (i := 0) (oi := ?o1) (v := ?v1) ?h1 (by kernel_rfl) ?q1 (Or.inl ⟨?w1, ?y1⟩) (by assumption) ?r1; (case h1 => ((simp only [g1, g3]); rfl)); (case q1 => exact fun _ _ _ h => h); (case w1 => rfl); (case y1 => (intro w' hSw; (try dsimp only at hSw); go_simp; (try with_reducible rfl))); (try simp only [Act.put, s1, s2, s3]))
  (refine takeH (i := 1) (oi := ?o2) (v := ?v2) ?h2 (by kernel_rfl) ?q2 (Or.inl ⟨?w2, ?y2⟩) (by assumption) ?r2; (case h2 => ((simp only [g1, g2, g3]); rfl)); (case q2 => exact fun _ _ _ h => h); (case w2 => rfl); (case y2 => (intro w' hSw; (try dsimp only at hSw); go_simp; (try with_reducible rfl))); (try simp only [Act.put, s1, s2, s3]))
  (refine takeH (i := 2) (oi := ?o3) (v := ?v3) ?h3 (by kernel_rfl) ?q3 (Or.inl ⟨?w3, ?y3⟩) (by assumption) ?r3; (case h3 => ((simp only [g1, g2, g3]); rfl)); (case q3 => exact fun _ _ _ h => h); (case w3 => rfl); (case y3 => (intro w' hSw; (try dsimp only at hSw); go_simp; (try with_reducible rfl))); (try simp only [Act.put, s1, s2, s3]))
  (refine takeH (i := 3) (oi := ?o4) (v := ?v4) ?h4 (by kernel_rfl) ?q4 (Or.inl ⟨?w4, ?y4⟩) (by assumption) ?r4; (case h4 => ((simp only [g1, g2, g3]); rfl)); (case q4 => exact fun _ _ _ h => h); (case w4 => rfl); (case y4 => (intro w' hSw; (try dsimp only at hSw); go_simp; (try with_reducible rfl))); (try simp only [Act.put, s1, s2, s3]))
  (refine takeH (i := 4) (oi := ?o5) (v := ?v5) ?h5 (by kernel_rfl) ?q5 (Or.inl ⟨?w5, ?y5⟩) (by assumption) ?r5; (case h5 => ((simp only [g1, g2, g3]); rfl)); (case q5 => exact fun _ _ _ h => h); (case w5 => rfl); (case y5 => (intro w' hSw; (try dsimp only at hSw); go_simp; (try with_reducible rfl))); (try simp only [Act.put, s1, s2, s3]))
  (refine takeH (i := 5) (oi := ?o6) (v := ?v6) ?h6 (by kernel_rfl) ?q6 (Or.inl ⟨?w6, ?y6⟩) (by assumption) ?r6; (case h6 => ((simp only [g1, g2, g3]); rfl)); (case q6 => exact fun _ _ _ h => h); (case w6 => rfl); (case y6 => (intro w' hSw; (try dsimp only at hSw); go_simp; (try with_reducible rfl))); (try simp only [Act.put, s1, s2, s3]))
  (refine takeH (i := 6) (oi := ?o7) (v := ?v7) ?h7 (by kernel_rfl) ?q7 (Or.inl ⟨?w7, ?y7⟩) (by assumption) ?r7; (case h7 => ((simp only [g1, g2, g3]); rfl)); (case q7 => exact fun _ _ _ h => h); (case w7 => rfl); (case y7 => (intro w' hSw; (try dsimp only at hSw); go_simp; (try with_reducible rfl))); (try simp only [Act.put, s1, s2, s3]))
  (refine takeH (i := 7) (oi := ?o8) (v := ?v8) ?h8 (by kernel_rfl) ?q8 (Or.inl ⟨?w8, ?y8⟩) (by assumption) ?r8; (case h8 => ((simp only [g1, g2, g3]); rfl)); (case q8 => exact fun _ _ _ h => h); (case w8 => rfl); (case y8 => (intro w' hSw; (try dsimp only at hSw); go_simp; (try with_reducible rfl))); (try simp only [Act.put, s1, s2, s3]))
  refine wpAnyH_done (by kernel_rfl) ?_ _
  go_wp2
  go_ret2
  exact ⟨rfl, (by (repeat (first | with_reducible assumption | with_reducible exact Kp.refl _ | with_reducible refine Kp.drew ?_ | with_reducible refine Kp.drewN ?_ _ | with_reducible refine Kp.alloc ?_ _ | ((with_reducible refine Kp.setCell ?_ ?_ _); rotate_left; (focus (first | omega | (simp; done) | (simp; omega)))) | with_reducible refine Kp.trans ?_ (by assumption))))⟩

set_option maxRecDepth 100000 in
set_option maxHeartbeats 2000000 in
theorem div64_high (hi lo y : Nat) (hh : 0 < hi) (hy : hi < y) (w : World) (hyb : y < 18446744073709551616) (hlo : lo < 18446744073709551616) :
    Calls Try.prog 94 #[.int .u64 hi, .int .u64 lo, .int .u64 y] w fun e w' => e = .returned (.tuple #[.int .u64 (((hi * 18446744073709551616 + lo) / y : Nat) : Int), .int .u64 (((hi * 18446744073709551616 + lo) % y : Nat) : Int)]) ∧ Kp w w' := by
  have h1 : ((y : Int) == 0) = false := by rw [beq_eq_false_iff_ne]; omega
  have h2 : decide ((y : Int) ≤ (hi : Int)) = false := by rw [decide_eq_false_iff_not]; omega
  have h3 : ((hi : Int) == 0) = false := by rw [beq_eq_false_iff_ne]; omega
  obtain ⟨s, hs, hs1, hs2, hs3⟩ := lead (by omega : 0 < y) hyb
  have hp : 0 < 2 ^ s := Nat.two_pow_pos s
  have hpq : 2 ^ (64 - s) * 2 ^ s = 18446744073709551616 := by rw [← Nat.pow_add, show 64 - s + s = 64 by omega]
  have hHY : (hi + 1) * 2 ^ s ≤ y * 2 ^ s := Nat.mul_le_mul_right _ hy
  rw [Nat.add_mul, Nat.one_mul] at hHY
  have hL : lo / 2 ^ (64 - s) < 2 ^ s := by
    rw [Nat.div_lt_iff_lt_mul (Nat.two_pow_pos _), Nat.mul_comm, hpq]; exact hlo
  have hLM : lo / 2 ^ (64 - s) = lo * 2 ^ s / 18446744073709551616 := by rw [← hpq, Nat.mul_div_mul_right _ _ hp]
  -- the equations of the walk, the numbers under names
  obtain ⟨Y, hY⟩ : ∃ Y : Nat, y * 2 ^ s = Y := ⟨_, rfl⟩
  obtain ⟨L, hLd⟩ : ∃ L : Nat, lo / 2 ^ (64 - s) = L := ⟨_, rfl⟩
  obtain ⟨M, hM⟩ : ∃ M : Nat, lo * 2 ^ s % 18446744073709551616 = M := ⟨_, rfl⟩
  obtain ⟨n, hn⟩ : ∃ n : Nat, hi * 2 ^ s + L = n := ⟨_, rfl⟩
  obtain ⟨H, hH⟩ : ∃ H : Nat, hi * 2 ^ s = H := ⟨_, rfl⟩
  rw [hLd] at hL hLM
  rw [hY] at hHY hs2 hs3
  have a1 : IntKind.u64.wrap ((y : Int) * 2 ^ s) = (Y : Int) := wrapPow (by rw [hY]; exact Nat.mod_eq_of_lt hs3)
  have a2 : IntKind.u64.wrap ((hi : Int) * 2 ^ s) = (H : Int) := wrapPow (by rw [hH]; exact Nat.mod_eq_of_lt (by omega))
  have a3 : (lo : Int) / 2 ^ (64 - s) = (L : Int) := divPow hLd
  have a4 : bits .or .u64 (H : Int) (L : Int) = (n : Int) := by rw [← hH, orN hL (by omega), hn]
  have a5 : IntKind.u64.wrap ((lo : Int) * 2 ^ s) = (M : Int) := wrapPow hM
  obtain ⟨y1, hy1⟩ : ∃ k : Nat, Y / 4294967296 = k := ⟨_, rfl⟩
  obtain ⟨y0, hy0⟩ : ∃ k : Nat, Y % 4294967296 = k := ⟨_, rfl⟩
  obtain ⟨m1, hm1⟩ : ∃ k : Nat, M / 4294967296 = k := ⟨_, rfl⟩
  obtain ⟨m0, hm0⟩ : ∃ k : Nat, M % 4294967296 = k := ⟨_, rfl⟩
  have bM : M < 18446744073709551616 := by omega
  have b1 : (Y : Int) / 4294967296 = (y1 : Int) := by omega
  have b2 : bits .and .u64 (Y : Int) 4294967295 = (y0 : Int) := maskN hs3 hy0
  have b3 : (M : Int) / 4294967296 = (m1 : Int) := by omega
  have b4 : bits .and .u64 (M : Int) 4294967295 = (m0 : Int) := maskN bM hm0
  have c1 : 2147483648 ≤ y1 := by omega
  have c2 : y1 < 4294967296 := by omega
  have c3 : y0 < 4294967296 := by omega
  have c4 : m1 < 4294967296 := by omega
  have c5 : m0 < 4294967296 := by omega
  have c6 : n < y1 * 4294967296 + y0 := by omega
  have cY : Y = y1 * 4294967296 + y0 := by omega
  have hU : (n * 4294967296 + m1) * 4294967296 + m0 = (hi * 18446744073709551616 + lo) * 2 ^ s := by
    have e := Nat.div_add_mod (lo * 2 ^ s) 18446744073709551616
    rw [← hLM, hM] at e
    have e2 : (hi * 18446744073709551616 + lo) * 2 ^ s = hi * 2 ^ s * 18446744073709551616 + lo * 2 ^ s := by rw [Nat.add_mul, Nat.mul_right_comm]
    rw [e2, ← e, ← hn]
    omega
  have HU := Lib.hid hU
  have HY := Lib.hid hY
  have CY := Lib.hid cY
  clear hH hU hY hM hn hLM hLd hL hpq hHY hs2
  -- the first digit
  obtain ⟨Q1, hQ1⟩ : ∃ Q : Nat, Q = (n * 4294967296 + m1) / (y1 * 4294967296 + y0) := ⟨_, rfl⟩
  obtain ⟨f1, f2, f3, f4⟩ := digit_first hQ1 c1 c3 c4 c6
  have HQ1 := Lib.hid hQ1; clear hQ1
  obtain ⟨q0, hq0⟩ : ∃ q : Nat, n / y1 = q := ⟨_, rfl⟩
  obtain ⟨r0, hr0⟩ : ∃ r : Nat, n % y1 = r := ⟨_, rfl⟩
  have r0lt : r0 < y1 := by rw [← hr0]; exact Nat.mod_lt _ (by omega)
  rw [hq0, hr0] at f4
  rw [hq0] at f1 f2
  have d1 : (n : Int).tdiv (y1 : Int) = (q0 : Int) := quoN hq0
  have d1' : (n : Int) / (y1 : Int) = (q0 : Int) := quoE hq0
  obtain ⟨P0, hP0⟩ : ∃ P : Nat, q0 * y1 = P := ⟨_, rfl⟩
  have d2 : IntKind.u64.wrap ((q0 : Int) * (y1 : Int)) = (P0 : Int) := mulW hP0 (by omega)
  have d3 : IntKind.u64.wrap ((n : Int) - (P0 : Int)) = (r0 : Int) := wrapN (by omega)
  have F4 := Lib.hid f4
  clear hP0 f4
  clear cY hy1 hy0 hm1 hm0 hq0 hr0
  have y1n : ((y1 : Int) == 0) = false := by rw [beq_eq_false_iff_ne]; omega
  have y1m : y1 ≠ 0 := by omega
  go_enter Try.func94, Try.ntmps94
  go_upto_block 0 with (go_at_call 96; refine (Try.bits_LeadingZeros64 _ _ (by omega) (by omega)).mono ?_; rintro e w' ⟨rfl, hw⟩; rw [hw, Int.toNat_natCast, hs])
  go_cut [15] (fun v15 wc => v15 = .int .u64 Q1 ∧ w = wc)
  case first =>
    go_wp2_with fail
    go_loopw [15, 16] (fun v15 v16 wr => ∃ q r : Nat, v15 = .int .u64 q ∧ v16 = .int .u64 r ∧ Hid (q * y1 + r = n ∧ Q1 ≤ q ∧ q ≤ 4294967297 ∧ r < 4294967296) ∧ w = wr) (fun v15 _ _ => (intOf v15).toNat)
    case atStart =>
      exact ⟨q0, r0, by go_num, by go_num, ⟨F4.out, f1, f2, by omega⟩, rfl⟩
    case round =>
      obtain ⟨q, r, rfl, rfl, hg, rfl⟩ := hrel
      obtain ⟨g1, g2, g3, g4⟩ := hg.out
      have g5 := Nat.mul_le_mul g3 (by omega : y0 ≤ 4294967295)
      obtain ⟨A, hA⟩ : ∃ A : Nat, q * y0 = A := ⟨_, rfl⟩
      obtain ⟨B, hB⟩ : ∃ B : Nat, 4294967296 * r = B := ⟨_, rfl⟩
      obtain ⟨C, hC⟩ : ∃ C : Nat, B + m1 = C := ⟨_, rfl⟩
      obtain ⟨E, hE⟩ : ∃ E : Nat, r + y1 = E := ⟨_, rfl⟩
      rw [hA] at g5
      have p1 : IntKind.u64.wrap ((q : Int) * (y0 : Int)) = (A : Int) := mulW hA (by omega)
      have p2 : IntKind.u64.wrap (4294967296 * (r : Int)) = (B : Int) := wrapN (by omega)
      have p3 : IntKind.u64.wrap ((B : Int) + (m1 : Int)) = (C : Int) := wrapN (by omega)
      have p5 : IntKind.u64.wrap ((r : Int) + (y1 : Int)) = (E : Int) := wrapN (by omega)
      by_cases ht : 4294967296 ≤ q ∨ C < A
      · have above : Q1 + 1 ≤ q := by
          rcases ht with h | h
          · omega
          · exact digit_above g1 HQ1.out (by omega) (.inr (by rw [Nat.mul_comm r, hB, hC, hA]; exact h))
        have nd := digit_down g1 (by omega : 1 ≤ q)
        obtain ⟨D, hD⟩ : ∃ D : Nat, q - 1 = D := ⟨_, rfl⟩
        have p4 : IntKind.u64.wrap ((q : Int) - 1) = (D : Int) := wrapN (by omega)
        rw [hD, hE] at nd
        by_cases t3 : 4294967296 ≤ E
        · have last := Lib.hid (digit_last nd HQ1.out (by omega) t3 (by omega) c3 (by omega))
          have t3' : decide ((4294967296 : Int) ≤ (E : Int)) = true := by rw [decide_eq_true_eq]; omega
          by_cases t1 : 4294967296 ≤ q
          · have t1' : decide ((4294967296 : Int) ≤ (q : Int)) = true := by rw [decide_eq_true_eq]; omega
            clear ht g1 g5 nd hA hB hC hE hD
            go_wp2
            go_meet
            case rel => exact ⟨by rw [last.out], rfl⟩
          · have t1' : decide ((4294967296 : Int) ≤ (q : Int)) = false := by rw [decide_eq_false_iff_not]; omega
            have t2 : C < A := by omega
            have t2' : decide ((C : Int) < (A : Int)) = true := by rw [decide_eq_true_eq]; omega
            clear ht g1 g5 nd hA hB hC hE hD
            go_wp2
            go_meet
            case rel => exact ⟨by rw [last.out], rfl⟩
        · have t3' : decide ((4294967296 : Int) ≤ (E : Int)) = false := by rw [decide_eq_false_iff_not]; omega
          have ND : Hid (D * y1 + E = n ∧ Q1 ≤ D ∧ D ≤ 4294967297 ∧ E < 4294967296) := Lib.hid ⟨nd, by omega, by omega, by omega⟩
          have HD := Lib.hid hD
          by_cases t1 : 4294967296 ≤ q
          · have t1' : decide ((4294967296 : Int) ≤ (q : Int)) = true := by rw [decide_eq_true_eq]; omega
            clear ht g1 g5 nd hA hB hC hE hD
            go_wp2
            go_roundw
            case rel => exact ⟨D, E, rfl, rfl, ND, by simp⟩
            case measure => have := HD.out; simp [intOf]; omega
          · have t1' : decide ((4294967296 : Int) ≤ (q : Int)) = false := by rw [decide_eq_false_iff_not]; omega
            have t2 : C < A := by omega
            have t2' : decide ((C : Int) < (A : Int)) = true := by rw [decide_eq_true_eq]; omega
            clear ht g1 g5 nd hA hB hC hE hD
            go_wp2
            go_roundw
            case rel => exact ⟨D, E, rfl, rfl, ND, by simp⟩
            case measure => have := HD.out; simp [intOf]; omega
      · have same := Lib.hid (digit_is g1 HQ1.out (by omega) (by rw [Nat.mul_comm r, hB, hC, hA]; omega) g2)
        have t1' : decide ((4294967296 : Int) ≤ (q : Int)) = false := by rw [decide_eq_false_iff_not]; omega
        have t1 : ¬ 4294967296 ≤ q := by omega
        have t2 : ¬ C < A := by omega
        have t2' : decide ((C : Int) < (A : Int)) = false := by rw [decide_eq_false_iff_not]; omega
        clear ht g1 g5 hA hB hC hE
        go_wp2
        go_meet
        case rel => exact ⟨by rw [same.out], rfl⟩
  case rest =>
    obtain ⟨rfl, rfl⟩ := hcut
    have hd := HQ1.out
    rw [← CY.out] at hd
    have hdm := Nat.div_add_mod (n * 4294967296 + m1) Y
    have hml := Nat.mod_lt (n * 4294967296 + m1) (by omega : 0 < Y)
    rw [← hd] at hdm
    obtain ⟨n2, hn2⟩ : ∃ k : Nat, (n * 4294967296 + m1) % Y = k := ⟨_, rfl⟩
    rw [hn2] at hdm hml
    have HD := Lib.hid hd
    have HN2 := Lib.hid hn2.symm
    obtain ⟨PQ, hPQ⟩ : ∃ k : Nat, Q1 * Y = k := ⟨_, rfl⟩
    rw [Nat.mul_comm Y, hPQ] at hdm
    obtain ⟨A1, hA1⟩ : ∃ k : Nat, n * 4294967296 % 18446744073709551616 = k := ⟨_, rfl⟩
    obtain ⟨B1, hB1⟩ : ∃ k : Nat, (A1 + m1) % 18446744073709551616 = k := ⟨_, rfl⟩
    obtain ⟨C1, hC1⟩ : ∃ k : Nat, PQ % 18446744073709551616 = k := ⟨_, rfl⟩
    have e1 : IntKind.u64.wrap ((n : Int) * 4294967296) = (A1 : Int) := wrapN (by omega)
    have e2 : IntKind.u64.wrap ((A1 : Int) + (m1 : Int)) = (B1 : Int) := wrapN (by omega)
    have e3 : IntKind.u64.wrap ((Q1 : Int) * (Y : Int)) = (C1 : Int) := wrapN (by rw [← Int.natCast_mul, hPQ]; omega)
    have e4 : IntKind.u64.wrap ((B1 : Int) - (C1 : Int)) = (n2 : Int) := wrapN (by clear hn2 hd hPQ; omega)
    have c7 : n2 < y1 * 4294967296 + y0 := by rw [← CY.out]; exact hml
    clear hn2 hd hPQ hdm hml hA1 hB1 hC1
    -- the second digit
    obtain ⟨Q2, hQ2⟩ : ∃ Q : Nat, Q = (n2 * 4294967296 + m0) / (y1 * 4294967296 + y0) := ⟨_, rfl⟩
    obtain ⟨k1, k2, k3, k4⟩ := digit_first hQ2 c1 c3 c5 c7
    have HQ2 := Lib.hid hQ2; clear hQ2
    obtain ⟨q2, hq2⟩ : ∃ q : Nat, n2 / y1 = q := ⟨_, rfl⟩
    obtain ⟨r2, hr2⟩ : ∃ r : Nat, n2 % y1 = r := ⟨_, rfl⟩
    have r2lt : r2 < y1 := by rw [← hr2]; exact Nat.mod_lt _ (by omega)
    rw [hq2, hr2] at k4
    rw [hq2] at k1 k2
    have l1 : (n2 : Int).tdiv (y1 : Int) = (q2 : Int) := quoN hq2
    have l1' : (n2 : Int) / (y1 : Int) = (q2 : Int) := quoE hq2
    obtain ⟨P2, hP2⟩ : ∃ P : Nat, q2 * y1 = P := ⟨_, rfl⟩
    have l2 : IntKind.u64.wrap ((q2 : Int) * (y1 : Int)) = (P2 : Int) := mulW hP2 (by omega)
    have l3 : IntKind.u64.wrap ((n2 : Int) - (P2 : Int)) = (r2 : Int) := wrapN (by omega)
    have K4 := Lib.hid k4
    clear hP2 k4 hq2 hr2
    go_upto_block 2 with (fail)
    go_cut [18] (fun v18 wc => v18 = .int .u64 Q2 ∧ w = wc)
    case first =>
      go_wp2_with fail
      go_loopw [18, 16] (fun v15 v16 wr => ∃ q r : Nat, v15 = .int .u64 q ∧ v16 = .int .u64 r ∧ Hid (q * y1 + r = n2 ∧ Q2 ≤ q ∧ q ≤ 4294967297 ∧ r < 4294967296) ∧ w = wr) (fun v15 _ _ => (intOf v15).toNat)
      case atStart =>
        exact ⟨q2, r2, by go_num, by go_num, ⟨K4.out, k1, k2, by omega⟩, rfl⟩
      case round =>
        obtain ⟨q, r, rfl, rfl, hg, rfl⟩ := hrel
        obtain ⟨g1, g2, g3, g4⟩ := hg.out
        have g5 := Nat.mul_le_mul g3 (by omega : y0 ≤ 4294967295)
        obtain ⟨A, hA⟩ : ∃ A : Nat, q * y0 = A := ⟨_, rfl⟩
        obtain ⟨B, hB⟩ : ∃ B : Nat, 4294967296 * r = B := ⟨_, rfl⟩
        obtain ⟨C, hC⟩ : ∃ C : Nat, B + m0 = C := ⟨_, rfl⟩
        obtain ⟨E, hE⟩ : ∃ E : Nat, r + y1 = E := ⟨_, rfl⟩
        rw [hA] at g5
        have p1 : IntKind.u64.wrap ((q : Int) * (y0 : Int)) = (A : Int) := mulW hA (by omega)
        have p2 : IntKind.u64.wrap (4294967296 * (r : Int)) = (B : Int) := wrapN (by omega)
        have p3 : IntKind.u64.wrap ((B : Int) + (m0 : Int)) = (C : Int) := wrapN (by omega)
        have p5 : IntKind.u64.wrap ((r : Int) + (y1 : Int)) = (E : Int) := wrapN (by omega)
        by_cases ht : 4294967296 ≤ q ∨ C < A
        · have above : Q2 + 1 ≤ q := by
            rcases ht with h | h
            · omega
            · exact digit_above g1 HQ2.out (by omega) (.inr (by rw [Nat.mul_comm r, hB, hC, hA]; exact h))
          have nd := digit_down g1 (by omega : 1 ≤ q)
          obtain ⟨D, hD⟩ : ∃ D : Nat, q - 1 = D := ⟨_, rfl⟩
          have p4 : IntKind.u64.wrap ((q : Int) - 1) = (D : Int) := wrapN (by omega)
          rw [hD, hE] at nd
          by_cases t3 : 4294967296 ≤ E
          · have last := Lib.hid (digit_last nd HQ2.out (by omega) t3 (by omega) c3 (by omega))
            have t3' : decide ((4294967296 : Int) ≤ (E : Int)) = true := by rw [decide_eq_true_eq]; omega
            by_cases t1 : 4294967296 ≤ q
            · have t1' : decide ((4294967296 : Int) ≤ (q : Int)) = true := by rw [decide_eq_true_eq]; omega
              clear ht g1 g5 nd hA hB hC hE hD
              go_wp2
              go_meet
              case rel => exact ⟨by rw [last.out], rfl⟩
            · have t1' : decide ((4294967296 : Int) ≤ (q : Int)) = false := by rw [decide_eq_false_iff_not]; omega
              have t2 : C < A := by omega
              have t2' : decide ((C : Int) < (A : Int)) = true := by rw [decide_eq_true_eq]; omega
              clear ht g1 g5 nd hA hB hC hE hD
              go_wp2
              go_meet
              case rel => exact ⟨by rw [last.out], rfl⟩
          · have t3' : decide ((4294967296 : Int) ≤ (E : Int)) = false := by rw [decide_eq_false_iff_not]; omega
            have ND : Hid (D * y1 + E = n2 ∧ Q2 ≤ D ∧ D ≤ 4294967297 ∧ E < 4294967296) := Lib.hid ⟨nd, by omega, by omega, by omega⟩
            have HD := Lib.hid hD
            by_cases t1 : 4294967296 ≤ q
            · have t1' : decide ((4294967296 : Int) ≤ (q : Int)) = true := by rw [decide_eq_true_eq]; omega
              clear ht g1 g5 nd hA hB hC hE hD
              go_wp2
              go_roundw
              case rel => exact ⟨D, E, rfl, rfl, ND, by simp⟩
              case measure => have := HD.out; simp [intOf]; omega
            · have t1' : decide ((4294967296 : Int) ≤ (q : Int)) = false := by rw [decide_eq_false_iff_not]; omega
              have t2 : C < A := by omega
              have t2' : decide ((C : Int) < (A : Int)) = true := by rw [decide_eq_true_eq]; omega
              clear ht g1 g5 nd hA hB hC hE hD
              go_wp2
              go_roundw
              case rel => exact ⟨D, E, rfl, rfl, ND, by simp⟩
              case measure => have := HD.out; simp [intOf]; omega
        · have same := Lib.hid (digit_is g1 HQ2.out (by omega) (by rw [Nat.mul_comm r, hB, hC, hA]; omega) g2)
          have t1' : decide ((4294967296 : Int) ≤ (q : Int)) = false := by rw [decide_eq_false_iff_not]; omega
          have t1 : ¬ 4294967296 ≤ q := by omega
          have t2 : ¬ C < A := by omega
          have t2' : decide ((C : Int) < (A : Int)) = false := by rw [decide_eq_false_iff_not]; omega
          clear ht g1 g5 hA hB hC hE
          go_wp2
          go_meet
          case rel => exact ⟨by rw [same.out], rfl⟩
    case rest =>
      obtain ⟨rfl, rfl⟩ := hcut
      have hd := HQ2.out
      rw [← CY.out] at hd
      have hdm := Nat.div_add_mod (n2 * 4294967296 + m0) Y
      have hml := Nat.mod_lt (n2 * 4294967296 + m0) (by omega : 0 < Y)
      rw [← hd] at hdm
      obtain ⟨R, hR⟩ : ∃ k : Nat, (n2 * 4294967296 + m0) % Y = k := ⟨_, rfl⟩
      rw [hR] at hdm hml
      have HB := digits_both (n1 := n) (n2 := n2) (m1 := m1) (m2 := m0) (Q1 := Q1) (Q2 := Q2) (s := s) (y := y) (by omega) HU.out (by rw [HY.out]; exact HD.out) (by rw [HY.out]; exact HN2.out) (by rw [HY.out]; exact hd)
      rw [HY.out, hR] at HB
      have HBH := Lib.hid HB; clear HB
      obtain ⟨PQ2, hPQ2⟩ : ∃ k : Nat, Q2 * Y = k := ⟨_, rfl⟩
      rw [Nat.mul_comm Y, hPQ2] at hdm
      obtain ⟨A2, hA2⟩ : ∃ k : Nat, n2 * 4294967296 % 18446744073709551616 = k := ⟨_, rfl⟩
      obtain ⟨B2, hB2⟩ : ∃ k : Nat, (A2 + m0) % 18446744073709551616 = k := ⟨_, rfl⟩
      obtain ⟨C2, hC2⟩ : ∃ k : Nat, PQ2 % 18446744073709551616 = k := ⟨_, rfl⟩
      obtain ⟨X, hX⟩ : ∃ k : Nat, Q1 * 4294967296 = k := ⟨_, rfl⟩
      obtain ⟨F, hF⟩ : ∃ k : Nat, X + Q2 = k := ⟨_, rfl⟩
      obtain ⟨G, hG⟩ : ∃ k : Nat, R / 2 ^ s = k := ⟨_, rfl⟩
      have i1 : IntKind.u64.wrap ((n2 : Int) * 4294967296) = (A2 : Int) := wrapN (by omega)
      have i2 : IntKind.u64.wrap ((A2 : Int) + (m0 : Int)) = (B2 : Int) := wrapN (by omega)
      have i3 : IntKind.u64.wrap ((Q2 : Int) * (Y : Int)) = (C2 : Int) := wrapN (by rw [← Int.natCast_mul, hPQ2]; omega)
      have i4 : IntKind.u64.wrap ((B2 : Int) - (C2 : Int)) = (R : Int) := wrapN (by clear hR hd hPQ2 hG; omega)
      have i5 : IntKind.u64.wrap ((Q1 : Int) * 4294967296) = (X : Int) := wrapN (by omega)
      have i6 : IntKind.u64.wrap ((X : Int) + (Q2 : Int)) = (F : Int) := wrapN (by omega)
      have i7 : (R : Int) / 2 ^ s = (G : Int) := divPow hG
      have HE : Hid (Ending.returned (.tuple #[.int .u64 (F : Int), .int .u64 (G : Int)]) = .returned (.tuple #[.int .u64 (((hi * 18446744073709551616 + lo) / y : Nat) : Int), .int .u64 (((hi * 18446744073709551616 + lo) % y : Nat) : Int)])) := by
        rw [← hF, ← hX, ← hG, HBH.out.1, HBH.out.2]; rfl
      clear hd hR hPQ2 hdm hml hA2 hB2 hC2 hX hF hG
      go_wp2
      go_ret2
      exact ⟨HE.out, (by (repeat (first | with_reducible assumption | with_reducible exact Kp.refl _ | with_reducible refine Kp.drew ?_ | with_reducible refine Kp.drewN ?_ _ | with_reducible refine Kp.alloc ?_ _ | ((with_reducible refine Kp.setCell ?_ ?_ _); rotate_left; (focus (first | omega | (simp; done) | (simp; omega)))) | with_reducible refine Kp.trans ?_ (by assumption))))⟩
end Go.Proofs.Yteipfamaclildaa
