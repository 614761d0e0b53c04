/- Package wide: products that are divided. -/
import Derived.Test.YteipfamaclildaaDiv64

import Derived.Test.YteipfamaclildaaFlat

import Derived.Laws.Externs

namespace Go.Proofs.Yteipfamaclildaa

open Go.RowKit

theorem div64_any (hi lo y : Nat) (hy : hi < y) (w : World) (hyb : y < 18446744073709551616) (hlo : lo < 18446744073709551616) :
    Calls Try.prog 94 #[.int .u64 hi, .int .u64 lo, .int .u64 y] w fun e w' => e = .returned (.tuple #[.int .u64 (((hi * 18446744073709551616 + lo) / y : Nat) : Int), .int .u64 (((hi * 18446744073709551616 + lo) % y : Nat) : Int)]) ∧ Kp w w' := by
  rcases Nat.eq_zero_or_pos hi with h | h
  · subst h
    rw [Nat.zero_mul, Nat.zero_add]
    exact div64_zero lo y hy w hyb hlo
  · exact div64_high hi lo y h hy w hyb hlo

/-- Two words as a value. -/
def num (h l : Nat) : Value := .agg #[.int .u64 (h : Int), .int .u64 (l : Int)]
def nums (h l : Nat) : List Value := [.int .u64 (h : Int), .int .u64 (l : Int)]

theorem wideMul_any (x y : Nat) (hx : x < 18446744073709551616) (hy : y < 18446744073709551616) (w : World) :
    Calls Try.prog 85 #[.int .u64 x, .int .u64 y] w fun e w' => e = .returned (num (x * y / 18446744073709551616) (x * y % 18446744073709551616)) ∧ Kp w w' := by
  unfold num
  go_enter Try.func85, Try.ntmps85
  go_wp2_with (go_at_call 93; refine (Try.bits_Mul64 x y hx hy _).mono ?_; rintro e w' ⟨rfl, hw⟩; rw [hw])
  exact bodyPost_ret (v := .agg #[.int .u64 ((x * y / 18446744073709551616 : Nat) : Int), .int .u64 ((x * y % 18446744073709551616 : Nat) : Int)]) (by simp [results, Try.results85, go_sem]) rfl ⟨rfl, (by (repeat (first | with_reducible assumption | with_reducible exact Kp.refl _ | with_reducible refine Kp.drew ?_ | with_reducible refine Kp.drewN ?_ _ | with_reducible refine Kp.alloc ?_ _ | ((with_reducible refine Kp.setCell ?_ ?_ _); rotate_left; (focus (first | omega | (simp; done) | (simp; omega)))) | with_reducible refine Kp.trans ?_ (by assumption))))⟩

theorem numDiv0_any (h l : Nat) (w : World) :
    Calls Try.prog 86 #[num h l, .int .u64 0] w fun e w' => e = .returned (.tuple #[num 0 0, .int .u64 0, .bool false]) ∧ Kp w w' := by
  unfold num
  go_enter Try.func86, Try.ntmps86
  go_wp2
  exact bodyPost_ret (v := .tuple #[.agg #[.int .u64 0, .int .u64 0], .int .u64 0, .bool false]) (by simp [results, Try.results86, go_sem]) rfl ⟨rfl, (by (repeat (first | with_reducible assumption | with_reducible exact Kp.refl _ | with_reducible refine Kp.drew ?_ | with_reducible refine Kp.drewN ?_ _ | with_reducible refine Kp.alloc ?_ _ | ((with_reducible refine Kp.setCell ?_ ?_ _); rotate_left; (focus (first | omega | (simp; done) | (simp; omega)))) | with_reducible refine Kp.trans ?_ (by assumption))))⟩

set_option maxHeartbeats 1000000 in
theorem numDiv_any (h l d : Nat) (hd : 0 < d) (hdb : d < 18446744073709551616) (hh : h < 18446744073709551616) (hl : l < 18446744073709551616) (w : World) :
    Calls Try.prog 86 #[num h l, .int .u64 d] w fun e w' => e = .returned (.tuple #[num (h / d) ((h % d * 18446744073709551616 + l) / d), .int .u64 (((h % d * 18446744073709551616 + l) % d : Nat) : Int), .bool true]) ∧ Kp w w' := by
  unfold num
  have h1 : ((d : Int) == 0) = false := by rw [beq_eq_false_iff_ne]; omega
  have h2 : d ≠ 0 := by omega
  have hr : h % d < d := Nat.mod_lt _ hd
  obtain ⟨q, hq⟩ : ∃ q : Nat, h / d = q := ⟨_, rfl⟩
  obtain ⟨r, hr0⟩ : ∃ r : Nat, h % d = r := ⟨_, rfl⟩
  have q1 : (h : Int).tdiv (d : Int) = (q : Int) := quoN hq
  have q2 : (h : Int) / (d : Int) = (q : Int) := quoE hq
  have q3 : (h : Int).tmod (d : Int) = (r : Int) := by rw [← Int.ofNat_tmod, hr0]
  have q4 : q < 18446744073709551616 := by rw [← hq]; exact Nat.lt_of_le_of_lt (Nat.div_le_self _ _) hh
  have q5 : IntKind.u64.wrap (q : Int) = (q : Int) := wrapIn q4
  rw [hr0] at hr
  rw [hq, hr0]
  obtain ⟨x, hx⟩ : ∃ x : Nat, (r * 18446744073709551616 + l) / d = x := ⟨_, rfl⟩
  obtain ⟨y, hy⟩ : ∃ y : Nat, (r * 18446744073709551616 + l) % d = y := ⟨_, rfl⟩
  rw [hx, hy]
  have HX := Lib.hid hx; have HY := Lib.hid hy
  clear hx hy hq hr0
  go_enter Try.func86, Try.ntmps86
  go_wp2_with fail
  
  
  refine named_world (F := fun w2 => Blk w2 w.heap.size [.int .u64 (h : Int), .int .u64 (l : Int)] 124 ∧ Blk w2 (w.heap.size + 1) [.int .u64 0, .int .u64 0] 124 ∧ Kp w w2) ⟨(by (repeat (first | with_reducible assumption | ((with_reducible refine Blk.newL ?_ ?_); (focus (first | (simp; done) | omega)); rfl) | with_reducible refine Blk.drew ?_ | with_reducible refine Blk.drewN ?_ _ | with_reducible refine Blk.alloc ?_ _ | ((with_reducible refine Blk.other ?_ ?_ _); rotate_left; (focus (first | with_reducible assumption | omega | (simp; done) | (simp; omega))))))), (by (repeat (first | with_reducible assumption | ((with_reducible refine Blk.newL ?_ ?_); (focus (first | (simp; done) | omega)); rfl) | with_reducible refine Blk.drew ?_ | with_reducible refine Blk.drewN ?_ _ | with_reducible refine Blk.alloc ?_ _ | ((with_reducible refine Blk.other ?_ ?_ _); rotate_left; (focus (first | with_reducible assumption | omega | (simp; done) | (simp; omega))))))), (by (repeat (first | with_reducible assumption | with_reducible exact Kp.refl _ | with_reducible refine Kp.drew ?_ | with_reducible refine Kp.drewN ?_ _ | with_reducible refine Kp.alloc ?_ _ | ((with_reducible refine Kp.setCell ?_ ?_ _); rotate_left; (focus (first | omega | (simp; done) | (simp; omega)))) | with_reducible refine Kp.trans ?_ (by assumption))))⟩ ?_; rintro w2 ⟨xn, xr, kw2⟩; have xn_0 := xn.cell 0 rfl; have xn_1 := xn.cell 1 rfl; have xn_ne := xn.lt; have xn_n1 := Nat.lt_add_one_of_lt xn_ne; have xn_n2 := Nat.lt_add_one_of_lt xn_n1; have xr_0 := xr.cell 0 rfl; have xr_1 := xr.cell 1 rfl; have xr_ne := xr.lt; have xr_n1 := Nat.lt_add_one_of_lt xr_ne; have xr_n2 := Nat.lt_add_one_of_lt xr_n1; have xr_f0 := xr.free 0; have xr_f1 := xr.free 1
  (refine wp_region_held_drew (S := (fun w' => (∀ b o, b < w2.heap.size → w'.cell? ⟨b, o, none⟩ = w2.cell? ⟨b, o, none⟩) ∧ Kp w2 w')) (by kernel_rfl) ?_ (fun hHd => ?_); (focus ((try dsimp only); (first | with_reducible assumption | with_reducible exact held_start _ | with_reducible exact held_next (by assumption) (by assumption) | with_reducible exact held_alloc (by assumption) _ | with_reducible exact held_drew (by assumption) | ((with_reducible refine held_kp ?_); (repeat (first | with_reducible assumption | with_reducible exact Kp.refl _ | with_reducible refine Kp.drew ?_ | with_reducible refine Kp.drewN ?_ _ | with_reducible refine Kp.alloc ?_ _ | ((with_reducible refine Kp.setCell ?_ ?_ _); rotate_left; (focus (first | omega | (simp; done) | (simp; omega)))) | with_reducible refine Kp.trans ?_ (by assumption))))))))
  (refine takeH (i := 0) (oi := ?o9) (v := ?v9) ?h9 (by kernel_rfl) ?q9 (Or.inl ⟨?w9, ?y9⟩) (by assumption) ?r9; (case h9 => ((simp only [g1, g3]); rfl)); (case q9 => exact fun _ _ _ h => h); (case w9 => rfl); (case y9 => (intro w' hSw; (try dsimp only at hSw); go_simp; (try with_reducible rfl))); (try simp only [Act.put, s1, s2, s3]))
  (refine takeH (i := 1) (oi := ?o10) (v := ?v10) ?h10 (by kernel_rfl) ?q10 (Or.inl ⟨?w10, ?y10⟩) (by assumption) ?r10; (case h10 => ((simp only [g1, g2, g3]); rfl)); (case q10 => exact fun _ _ _ h => h); (case w10 => rfl); (case y10 => (intro w' hSw; (try dsimp only at hSw); go_simp; (try with_reducible rfl))); (try simp only [Act.put, s1, s2, s3]))
  (refine takeH (i := 2) (oi := ?o11) (v := ?v11) ?h11 (by kernel_rfl) ?q11 (Or.inl ⟨?w11, ?y11⟩) (by assumption) ?r11; (case h11 => ((simp only [g1, g2, g3]); rfl)); (case q11 => exact fun _ _ _ h => h); (case w11 => rfl); (case y11 => (intro w' hSw; (try dsimp only at hSw); go_simp; (try with_reducible rfl))); (try simp only [Act.put, s1, s2, s3]))
  (refine takeH (i := 3) (oi := ?o12) (v := ?v12) ?h12 (by kernel_rfl) ?q12 (Or.inl ⟨?w12, ?y12⟩) (by assumption) ?r12; (case h12 => ((simp only [g1, g2, g3]); rfl)); (case q12 => exact fun _ _ _ h => h); (case w12 => rfl); (case y12 => (intro w' hSw; (try dsimp only at hSw); go_simp; (try with_reducible rfl))); (try simp only [Act.put, s1, s2, s3]))
  (refine takeH (i := 4) (oi := ?o13) (v := ?v13) ?h13 (by kernel_rfl) ?q13 (Or.inl ⟨?w13, ?y13⟩) (by assumption) ?r13; (case h13 => ((simp only [g1, g2, g3]); rfl)); (case q13 => exact fun _ _ _ h => h); (case w13 => rfl); (case y13 => (intro w' hSw; (try dsimp only at hSw); go_simp; (try with_reducible rfl))); (try simp only [Act.put, s1, s2, s3]))
  (refine takeH (i := 5) (oi := ?o14) (v := ?v14) ?h14 (by kernel_rfl) ?q14 (Or.inl ⟨?w14, ?y14⟩) (by assumption) ?r14; (case h14 => ((simp only [g1, g2, g3]); rfl)); (case q14 => exact fun _ _ _ h => h); (case w14 => rfl); (case y14 => (intro w' hSw; (try dsimp only at hSw); go_simp; (try with_reducible rfl))); (try simp only [Act.put, s1, s2, s3]))
  (refine takeH (i := 6) (oi := ?o15) (v := ?v15) ?h15 (by kernel_rfl) ?q15 (Or.inl ⟨?w15, ?y15⟩) (by assumption) ?r15; (case h15 => ((simp only [g1, g2, g3]); rfl)); (case q15 => exact fun _ _ _ h => h); (case w15 => rfl); (case y15 => (intro w' hSw; (try dsimp only at hSw); go_simp; (try with_reducible rfl))); (try simp only [Act.put, s1, s2, s3]))
  (refine takeH (i := 7) (oi := ?o16) (v := ?v16) ?h16 (by kernel_rfl) ?q16 (Or.inl ⟨?w16, ?y16⟩) (by assumption) ?r16; (case h16 => ((simp only [g1, g2, g3]); rfl)); (case q16 => exact fun _ _ _ h => h); (case w16 => rfl); (case y16 => (intro w' hSw; (try dsimp only at hSw); go_simp; (try with_reducible rfl))); (try simp only [Act.put, s1, s2, s3]))
  (refine takeH (i := 8) (oi := ?o17) (v := ?v17) ?h17 (by kernel_rfl) ?q17 (Or.inl ⟨?w17, ?y17⟩) (by assumption) ?r17; (case h17 => ((simp only [g1, g2, g3]); rfl)); (case q17 => exact fun _ _ _ h => h); (case w17 => rfl); (case y17 => (intro w' hSw; (try dsimp only at hSw); go_simp; (try with_reducible rfl))); (try simp only [Act.put, s1, s2, s3]))
  (refine takeH (i := 9) (oi := ?o18) (v := ?v18) ?h18 (by kernel_rfl) ?q18 (Or.inl ⟨?w18, ?y18⟩) (by assumption) ?r18; (case h18 => ((simp only [g1, g2, g3]); rfl)); (case q18 => exact fun _ _ _ h => h); (case w18 => rfl); (case y18 => (intro w' hSw; (try dsimp only at hSw); go_simp; (try with_reducible rfl))); (try simp only [Act.put, s1, s2, s3]))
  refine wpAnyH_done (by kernel_rfl) ?_ _
  go_wp2_with (go_at_call 94; refine (div64_any _ _ _ hr _ hdb hl).mono ?_; rintro e w' ⟨rfl, kk⟩; rw [HX.out, HY.out]; have zr := xr.kp (Kp.trans (by first | exact Kp.refl _ | exact (Kp.refl _).drew) kk); have f0 := zr.free 0; have f1 := zr.free 1; have g0 := zr.cell 0 rfl; have g1 := zr.cell 1 rfl)
  refine ret_blkv (vs := [.int .u64 (q : Int), .int .u64 (x : Int)]) (.tuple #[.agg #[.int .u64 (q : Int), .int .u64 (x : Int)], .int .u64 (y : Int), .bool true]) (Blk.set (Blk.set zr 0 _) 1 _) ?_ rfl ⟨rfl, (by (repeat (first | with_reducible assumption | with_reducible exact Kp.refl _ | with_reducible refine Kp.drew ?_ | with_reducible refine Kp.drewN ?_ _ | with_reducible refine Kp.alloc ?_ _ | ((with_reducible refine Kp.setCell ?_ ?_ _); rotate_left; (focus (first | omega | (simp; done) | (simp; omega)))) | with_reducible refine Kp.trans ?_ (by assumption))))⟩; intro wz bz; have z0 := bz.cell 0 rfl; have z1 := bz.cell 1 rfl; simp [results, Try.results86, go_sem, z0, z1]

/-- a times b by c; none: there is none. -/
def ratio (a b c : Int) : Option Int := if a < 0 ∨ b < 0 ∨ c < 1 then none else if a * b / c ≤ 9223372036854775807 then some (a * b / c) else none
theorem long_div (Z h l d : Nat) (hd : 0 < d) (hl : l < 18446744073709551616) (hZ : h * 18446744073709551616 + l = Z) :
    Z / d = h / d * 18446744073709551616 + (h % d * 18446744073709551616 + l) / d ∧ (h % d * 18446744073709551616 + l) / d < 18446744073709551616 ∧ Z % d = (h % d * 18446744073709551616 + l) % d := by
  have e := Nat.div_add_mod h d
  have hr := Nat.mod_lt h hd
  obtain ⟨q, hq⟩ : ∃ q, h / d = q := ⟨_, rfl⟩
  obtain ⟨r, hr0⟩ : ∃ r, h % d = r := ⟨_, rfl⟩
  rw [hq, hr0] at e
  rw [hr0] at hr
  rw [hq, hr0]
  clear hq hr0
  have e2 : Z = d * (q * 18446744073709551616) + (r * 18446744073709551616 + l) := by
    rw [← hZ, ← e, Nat.add_mul, Nat.mul_assoc, Nat.add_assoc]
  refine ⟨?_, ?_, ?_⟩
  · rw [e2, Nat.mul_add_div hd]
  · rw [Nat.div_lt_iff_lt_mul hd]
    have h3 : (r + 1) * 18446744073709551616 ≤ d * 18446744073709551616 := Nat.mul_le_mul_right _ hr
    rw [Nat.mul_comm d] at h3
    clear e2 hZ e
    omega
  · rw [e2, Nat.mul_add_mod]

set_option maxRecDepth 100000 in
set_option maxHeartbeats 1000000 in
theorem ratio_any (a b c : Int) (w : World) (ha : I64 a) (hb : I64 b) (hc : I64 c) :
    Calls Try.prog 59 #[.int .i64 a, .int .i64 b, .int .i64 c] w fun e w' => e = .returned (.tuple #[.int .i64 ((ratio a b c).getD 0), .bool (ratio a b c).isSome]) ∧ Kp w w' := by
  by_cases h : a < 0 ∨ b < 0 ∨ c < 1
  · have hn : ratio a b c = none := by unfold ratio; rw [if_pos h]
    rw [hn]
    clear hn
    by_cases h1 : a < 0
    · go_enter Try.func59, Try.ntmps59
      go_wp2
      go_ret2
      exact ⟨rfl, (by (repeat (first | with_reducible assumption | with_reducible exact Kp.refl _ | with_reducible refine Kp.drew ?_ | with_reducible refine Kp.drewN ?_ _ | with_reducible refine Kp.alloc ?_ _ | ((with_reducible refine Kp.setCell ?_ ?_ _); rotate_left; (focus (first | omega | (simp; done) | (simp; omega)))) | with_reducible refine Kp.trans ?_ (by assumption))))⟩
    · by_cases h2 : b < 0
      · go_enter Try.func59, Try.ntmps59
        go_wp2
        go_ret2
        exact ⟨rfl, (by (repeat (first | with_reducible assumption | with_reducible exact Kp.refl _ | with_reducible refine Kp.drew ?_ | with_reducible refine Kp.drewN ?_ _ | with_reducible refine Kp.alloc ?_ _ | ((with_reducible refine Kp.setCell ?_ ?_ _); rotate_left; (focus (first | omega | (simp; done) | (simp; omega)))) | with_reducible refine Kp.trans ?_ (by assumption))))⟩
      · have h3 : c < 1 := by omega
        go_enter Try.func59, Try.ntmps59
        go_wp2
        go_ret2
        exact ⟨rfl, (by (repeat (first | with_reducible assumption | with_reducible exact Kp.refl _ | with_reducible refine Kp.drew ?_ | with_reducible refine Kp.drewN ?_ _ | with_reducible refine Kp.alloc ?_ _ | ((with_reducible refine Kp.setCell ?_ ?_ _); rotate_left; (focus (first | omega | (simp; done) | (simp; omega)))) | with_reducible refine Kp.trans ?_ (by assumption))))⟩
  · obtain ⟨x, rfl⟩ := Int.eq_ofNat_of_zero_le (by omega : 0 ≤ a)
    obtain ⟨y, rfl⟩ := Int.eq_ofNat_of_zero_le (by omega : 0 ≤ b)
    obtain ⟨d, rfl⟩ := Int.eq_ofNat_of_zero_le (by omega : 0 ≤ c)
    have g1 : ¬ (x : Int) < 0 := by omega
    have g2 : ¬ (y : Int) < 0 := by omega
    have g3 : ¬ (d : Int) < 1 := by omega
    have bx : x < 9223372036854775808 := by have := ha.2; omega
    have bY : y < 9223372036854775808 := by have := hb.2; omega
    have bd : d < 9223372036854775808 := by have := hc.2; omega
    have hd : 0 < d := by omega
    have hdn : ¬ ((d : Int) = 0) := by omega
    have cx : IntKind.u64.wrap (x : Int) = (x : Int) := wrapIn (by omega)
    have cy : IntKind.u64.wrap (y : Int) = (y : Int) := wrapIn (by omega)
    have cd : IntKind.u64.wrap (d : Int) = (d : Int) := wrapIn (by omega)
    have hr : ratio x y d = if ((x * y / d : Nat) : Int) ≤ 9223372036854775807 then some ((x * y / d : Nat) : Int) else none := by
      unfold ratio; rw [if_neg h]; push_cast; rfl
    rw [hr]
    have hxy : x * y < 340282366920938463463374607431768211456 := by
      have := Nat.mul_lt_mul'' bx bY
      omega
    obtain ⟨Z, hZ⟩ : ∃ Z : Nat, x * y = Z := ⟨_, rfl⟩
    rw [hZ] at hxy
    obtain ⟨H, hH⟩ : ∃ k : Nat, Z / 18446744073709551616 = k := ⟨_, rfl⟩
    obtain ⟨L, hL⟩ : ∃ k : Nat, Z % 18446744073709551616 = k := ⟨_, rfl⟩
    have bH : H < 18446744073709551616 := by omega
    have bL : L < 18446744073709551616 := by omega
    obtain ⟨l1, l2, _⟩ := long_div Z H L d hd bL (by omega)
    obtain ⟨q, hq⟩ : ∃ k : Nat, H / d = k := ⟨_, rfl⟩
    obtain ⟨p, hp⟩ : ∃ k : Nat, (H % d * 18446744073709551616 + L) / d = k := ⟨_, rfl⟩
    rw [hZ]
    rw [hq, hp] at l1
    rw [hp] at l2
    rw [l1]
    have hm := wideMul_any x y (by omega) (by omega)
    rw [hZ, hH, hL] at hm
    have hv := numDiv_any H L d hd (by omega) bH bL
    rw [hq, hp] at hv
    have HM := Lib.hid hm; have HV := Lib.hid hv
    clear hm hv hr l1 hZ hxy hH hL hp hq ha hb hc
    obtain ⟨rest, hrest⟩ : ∃ k : Nat, (H % d * 18446744073709551616 + L) % d = k := ⟨_, rfl⟩
    rw [hrest] at HV
    clear hrest
    unfold num at HM HV
    by_cases hf : ((q * 18446744073709551616 + p : Nat) : Int) ≤ 9223372036854775807
    · rw [if_pos hf]
      obtain rfl : q = 0 := by omega
      rw [Nat.zero_mul, Nat.zero_add] at hf ⊢
      have hp' : ¬ ((9223372036854775807 : Int) < (p : Int)) := by omega
      have hp2 : decide ((9223372036854775807 : Int) < (p : Int)) = false := decide_eq_false hp'
      go_enter Try.func59, Try.ntmps59
      go_wp2_with (first
        | (go_at_call 85; go_must (refine (HM.out _).mono ?_); rintro e w' ⟨rfl, kk⟩)
        | (go_at_call 86; go_must (refine (HV.out _).mono ?_); rintro e w' ⟨rfl, kk⟩))
      go_ret2
      exact ⟨rfl, (by (repeat (first | with_reducible assumption | with_reducible exact Kp.refl _ | with_reducible refine Kp.drew ?_ | with_reducible refine Kp.drewN ?_ _ | with_reducible refine Kp.alloc ?_ _ | ((with_reducible refine Kp.setCell ?_ ?_ _); rotate_left; (focus (first | omega | (simp; done) | (simp; omega)))) | with_reducible refine Kp.trans ?_ (by assumption))))⟩
    · rw [if_neg hf]
      by_cases hq0 : 0 < q
      · go_enter Try.func59, Try.ntmps59
        go_wp2_with (first
          | (go_at_call 85; go_must (refine (HM.out _).mono ?_); rintro e w' ⟨rfl, kk⟩)
          | (go_at_call 86; go_must (refine (HV.out _).mono ?_); rintro e w' ⟨rfl, kk⟩))
        go_ret2
        exact ⟨rfl, (by (repeat (first | with_reducible assumption | with_reducible exact Kp.refl _ | with_reducible refine Kp.drew ?_ | with_reducible refine Kp.drewN ?_ _ | with_reducible refine Kp.alloc ?_ _ | ((with_reducible refine Kp.setCell ?_ ?_ _); rotate_left; (focus (first | omega | (simp; done) | (simp; omega)))) | with_reducible refine Kp.trans ?_ (by assumption))))⟩
      · obtain rfl : q = 0 := by omega
        have hp' : ((9223372036854775807 : Int) < (p : Int)) := by omega
        have hp2 : decide ((9223372036854775807 : Int) < (p : Int)) = true := decide_eq_true hp'
        go_enter Try.func59, Try.ntmps59
        go_wp2_with (first
          | (go_at_call 85; go_must (refine (HM.out _).mono ?_); rintro e w' ⟨rfl, kk⟩)
          | (go_at_call 86; go_must (refine (HV.out _).mono ?_); rintro e w' ⟨rfl, kk⟩))
        go_ret2
        exact ⟨rfl, (by (repeat (first | with_reducible assumption | with_reducible exact Kp.refl _ | with_reducible refine Kp.drew ?_ | with_reducible refine Kp.drewN ?_ _ | with_reducible refine Kp.alloc ?_ _ | ((with_reducible refine Kp.setCell ?_ ?_ _); rotate_left; (focus (first | omega | (simp; done) | (simp; omega)))) | with_reducible refine Kp.trans ?_ (by assumption))))⟩
end Go.Proofs.Yteipfamaclildaa
