/- The laws WideBack and WideShares: the walks. -/
import Derived.Test.YtepckgcbncdibaaWide
namespace Go.Proofs.Ytepckgcbncdibaa
open Go.RowKit

theorem less_words {a1 a0 b1 b0 : Nat} (h0 : a0 < 18446744073709551616) (g0 : b0 < 18446744073709551616) :
    decide (a1 * 18446744073709551616 + a0 < b1 * 18446744073709551616 + b0) = if a1 = b1 then decide (a0 < b0) else decide (a1 < b1) := by
  split
  · rw [decide_eq_decide]; omega
  · rw [decide_eq_decide]; omega
theorem numLess_any (a1 a0 b1 b0 : Nat) (h0 : a0 < 18446744073709551616) (g0 : b0 < 18446744073709551616) (w : World) :
    Calls Try.prog 57 #[num a1 a0, num b1 b0] w fun e w' => e = .returned (.bool (decide (a1 * 18446744073709551616 + a0 < b1 * 18446744073709551616 + b0))) ∧ Kp w w' := by
  unfold num
  rw [less_words h0 g0]
  by_cases h : a1 = b1
  · rw [if_pos h]
    subst h
    by_cases h2 : a0 < b0
    · go_enter Try.func57, Try.ntmps57
      go_wp2
      go_ret
      exact ⟨ret_bool (by simp [h2]), (by (repeat (first | with_reducible assumption | with_reducible exact Kp.refl _ | with_reducible refine Kp.drew ?_ | with_reducible refine Kp.drewN ?_ _ | with_reducible refine Kp.alloc ?_ _ | ((with_reducible refine Kp.setCell ?_ ?_ _); rotate_left; (focus (first | omega | (simp; done) | (simp; omega)))) | with_reducible refine Kp.trans ?_ (by assumption))))⟩
    · go_enter Try.func57, Try.ntmps57
      go_wp2
      go_ret
      exact ⟨ret_bool (by simp; omega), (by (repeat (first | with_reducible assumption | with_reducible exact Kp.refl _ | with_reducible refine Kp.drew ?_ | with_reducible refine Kp.drewN ?_ _ | with_reducible refine Kp.alloc ?_ _ | ((with_reducible refine Kp.setCell ?_ ?_ _); rotate_left; (focus (first | omega | (simp; done) | (simp; omega)))) | with_reducible refine Kp.trans ?_ (by assumption))))⟩
  · rw [if_neg h]
    have h1 : ¬ ((a1 : Int) = (b1 : Int)) := by omega
    have h2 : ((a1 : Int) != (b1 : Int)) = true := by rw [bne_iff_ne]; omega
    go_enter Try.func57, Try.ntmps57
    go_wp2
    go_ret
    exact ⟨ret_bool (by simp), (by (repeat (first | with_reducible assumption | with_reducible exact Kp.refl _ | with_reducible refine Kp.drew ?_ | with_reducible refine Kp.drewN ?_ _ | with_reducible refine Kp.alloc ?_ _ | ((with_reducible refine Kp.setCell ?_ ?_ _); rotate_left; (focus (first | omega | (simp; done) | (simp; omega)))) | with_reducible refine Kp.trans ?_ (by assumption))))⟩

/-- How two numbers compare. -/
def cmpN (A B : Nat) : Int := if A < B then -1 else if B < A then 1 else 0
theorem wideOrder_any (A B a1 a0 b1 b0 : Nat) (h0 : a0 < 18446744073709551616) (g0 : b0 < 18446744073709551616) (hA : a1 * 18446744073709551616 + a0 = A) (hB : b1 * 18446744073709551616 + b0 = B) (w : World) :
    Calls Try.prog 81 #[num a1 a0, num b1 b0, .func (Fn.func 57) #[] #[]] w fun e w' => e = .returned (.int .i64 (cmpN A B)) ∧ Kp w w' := by
  have l1 := numLess_any a1 a0 b1 b0 h0 g0
  have l2 := numLess_any b1 b0 a1 a0 g0 h0
  rw [hA, hB] at l1 l2
  have L1 := Lib.hid l1; have L2 := Lib.hid l2
  clear l1 l2
  unfold num at *
  unfold cmpN
  by_cases h : A < B
  · rw [if_pos h]
    have d1 : decide (A < B) = true := decide_eq_true h
    rw [d1] at L1
    clear hA hB d1 h
    go_enter Try.func81, Try.ntmps81
    go_wp2_with (go_at_call 57; go_must (refine (L1.out _).mono ?_); rintro e w' ⟨rfl, kk⟩)
    go_ret
    exact ⟨rfl, (by (repeat (first | with_reducible assumption | with_reducible exact Kp.refl _ | with_reducible refine Kp.drew ?_ | with_reducible refine Kp.drewN ?_ _ | with_reducible refine Kp.alloc ?_ _ | ((with_reducible refine Kp.setCell ?_ ?_ _); rotate_left; (focus (first | omega | (simp; done) | (simp; omega)))) | with_reducible refine Kp.trans ?_ (by assumption))))⟩
  · rw [if_neg h]
    have d1 : decide (A < B) = false := decide_eq_false h
    rw [d1] at L1
    clear d1 h
    by_cases h2 : B < A
    · rw [if_pos h2]
      have d2 : decide (B < A) = true := decide_eq_true h2
      rw [d2] at L2
      clear hA hB h2 d2
      go_enter Try.func81, Try.ntmps81
      go_wp2_with fail
      refine (L1.out _).mono ?_
      rintro e w1 ⟨rfl, k1⟩
      have xa : Blk w1 w.heap.size [.int .u64 (a1 : Int), .int .u64 (a0 : Int)] 64 := Blk.kp (by (repeat (first | with_reducible assumption | ((with_reducible refine Blk.newL ?_ ?_); (focus (first | (simp; done) | omega)); rfl) | with_reducible refine Blk.drew ?_ | with_reducible refine Blk.drewN ?_ _ | with_reducible refine Blk.alloc ?_ _ | ((with_reducible refine Blk.other ?_ ?_ _); rotate_left; (focus (first | with_reducible assumption | omega | (simp; done) | (simp; omega))))))) k1; have xa_0 := xa.cell 0 rfl; have xa_1 := xa.cell 1 rfl; have xa_ne := xa.lt; have xa_n1 := Nat.lt_add_one_of_lt xa_ne; have xa_n2 := Nat.lt_add_one_of_lt xa_n1
      have xb : Blk w1 (w.heap.size + 1) [.int .u64 (b1 : Int), .int .u64 (b0 : Int)] 64 := Blk.kp (by (repeat (first | with_reducible assumption | ((with_reducible refine Blk.newL ?_ ?_); (focus (first | (simp; done) | omega)); rfl) | with_reducible refine Blk.drew ?_ | with_reducible refine Blk.drewN ?_ _ | with_reducible refine Blk.alloc ?_ _ | ((with_reducible refine Blk.other ?_ ?_ _); rotate_left; (focus (first | with_reducible assumption | omega | (simp; done) | (simp; omega))))))) k1; have xb_0 := xb.cell 0 rfl; have xb_1 := xb.cell 1 rfl; have xb_ne := xb.lt; have xb_n1 := Nat.lt_add_one_of_lt xb_ne; have xb_n2 := Nat.lt_add_one_of_lt xb_n1
      go_wp2_with fail
      refine (L2.out _).mono ?_
      rintro e w2 ⟨rfl, k2⟩
      go_wp2
      go_ret
      exact ⟨rfl, (by (repeat (first | with_reducible assumption | with_reducible exact Kp.refl _ | with_reducible refine Kp.drew ?_ | with_reducible refine Kp.drewN ?_ _ | with_reducible refine Kp.alloc ?_ _ | ((with_reducible refine Kp.setCell ?_ ?_ _); rotate_left; (focus (first | omega | (simp; done) | (simp; omega)))) | with_reducible refine Kp.trans ?_ (by assumption))))⟩
    · rw [if_neg h2]
      have d2 : decide (B < A) = false := decide_eq_false h2
      rw [d2] at L2
      clear hA hB h2 d2
      go_enter Try.func81, Try.ntmps81
      go_wp2_with fail
      refine (L1.out _).mono ?_
      rintro e w1 ⟨rfl, k1⟩
      have xa : Blk w1 w.heap.size [.int .u64 (a1 : Int), .int .u64 (a0 : Int)] 64 := Blk.kp (by (repeat (first | with_reducible assumption | ((with_reducible refine Blk.newL ?_ ?_); (focus (first | (simp; done) | omega)); rfl) | with_reducible refine Blk.drew ?_ | with_reducible refine Blk.drewN ?_ _ | with_reducible refine Blk.alloc ?_ _ | ((with_reducible refine Blk.other ?_ ?_ _); rotate_left; (focus (first | with_reducible assumption | omega | (simp; done) | (simp; omega))))))) k1; have xa_0 := xa.cell 0 rfl; have xa_1 := xa.cell 1 rfl; have xa_ne := xa.lt; have xa_n1 := Nat.lt_add_one_of_lt xa_ne; have xa_n2 := Nat.lt_add_one_of_lt xa_n1
      have xb : Blk w1 (w.heap.size + 1) [.int .u64 (b1 : Int), .int .u64 (b0 : Int)] 64 := Blk.kp (by (repeat (first | with_reducible assumption | ((with_reducible refine Blk.newL ?_ ?_); (focus (first | (simp; done) | omega)); rfl) | with_reducible refine Blk.drew ?_ | with_reducible refine Blk.drewN ?_ _ | with_reducible refine Blk.alloc ?_ _ | ((with_reducible refine Blk.other ?_ ?_ _); rotate_left; (focus (first | with_reducible assumption | omega | (simp; done) | (simp; omega))))))) k1; have xb_0 := xb.cell 0 rfl; have xb_1 := xb.cell 1 rfl; have xb_ne := xb.lt; have xb_n1 := Nat.lt_add_one_of_lt xb_ne; have xb_n2 := Nat.lt_add_one_of_lt xb_n1
      go_wp2_with fail
      refine (L2.out _).mono ?_
      rintro e w2 ⟨rfl, k2⟩
      go_wp2
      go_ret
      exact ⟨rfl, (by (repeat (first | with_reducible assumption | with_reducible exact Kp.refl _ | with_reducible refine Kp.drew ?_ | with_reducible refine Kp.drewN ?_ _ | with_reducible refine Kp.alloc ?_ _ | ((with_reducible refine Kp.setCell ?_ ?_ _); rotate_left; (focus (first | omega | (simp; done) | (simp; omega)))) | with_reducible refine Kp.trans ?_ (by assumption))))⟩
/-- A length from 0 on. -/
def pos (x : Int) : Nat := x.toNat
theorem pos_lt {x : Int} (h : I64 x) : pos x < 9223372036854775808 := by have := h.2; unfold pos; omega
theorem wideAt_any (x : Int) (w : World) (hx : I64 x) : Calls Try.prog 80 #[.int .i64 x] w fun e w' => e = .returned (.int .u64 ((pos x : Nat) : Int)) ∧ w = w' := by
  have hb := pos_lt hx
  have c1 : IntKind.u64.wrap ((pos x : Nat) : Int) = ((pos x : Nat) : Int) := wrapIn (by omega)
  by_cases h : x < 0
  · have e : pos x = 0 := by unfold pos; omega
    rw [e]
    go_enter Try.func80, Try.ntmps80
    go_wp2
    go_ret
    exact ⟨ret_int (by omega), rfl⟩
  · obtain ⟨y, rfl⟩ := Int.eq_ofNat_of_zero_le (by omega : 0 ≤ x)
    have e : pos (y : Int) = y := by unfold pos; omega
    rw [e] at *
    go_enter Try.func80, Try.ntmps80
    go_wp2
    go_ret
    exact ⟨ret_int c1, rfl⟩
set_option maxHeartbeats 1000000 in
theorem wideCmp_any (a b c d : Int) (w : World) (ha : I64 a) (hb : I64 b) (hc : I64 c) (hd : I64 d) :
    Calls Try.prog 46 #[.int .i64 a, .int .i64 b, .int .i64 c, .int .i64 d] w fun e w' => e = .returned (.int .i64 (cmpN (pos a * pos b) (pos c * pos d))) ∧ Kp w w' := by
  have pa := pos_lt ha; have pb := pos_lt hb; have pc := pos_lt hc; have pd := pos_lt hd
  have HA := Lib.hid ha; have HB := Lib.hid hb; have HC := Lib.hid hc; have HD := Lib.hid hd
  clear ha hb hc hd
  have m1 := wideMul_any (pos a) (pos b) (by omega) (by omega)
  have m2 := wideMul_any (pos c) (pos d) (by omega) (by omega)
  obtain ⟨A, hA⟩ : ∃ k : Nat, pos a * pos b = k := ⟨_, rfl⟩
  obtain ⟨B, hB⟩ : ∃ k : Nat, pos c * pos d = k := ⟨_, rfl⟩
  rw [hA] at m1 ⊢
  rw [hB] at m2 ⊢
  have o := wideOrder_any A B (A / 18446744073709551616) (A % 18446744073709551616) (B / 18446744073709551616) (B % 18446744073709551616) (by omega) (by omega) (by omega) (by omega)
  have M1 := Lib.hid m1; have M2 := Lib.hid m2; have O := Lib.hid o
  clear m1 m2 o hA hB
  unfold num at *
  go_enter Try.func46, Try.ntmps46
  go_wp2_with fail
  refine (wideAt_any _ _ HA.out).mono ?_
  rintro e w' ⟨rfl, rfl⟩
  go_wp2_with fail
  refine (wideAt_any _ _ HB.out).mono ?_
  rintro e w' ⟨rfl, rfl⟩
  go_wp2_with fail
  refine (M1.out _).mono ?_
  rintro e w1 ⟨rfl, k1⟩
  go_wp2_with fail
  refine (wideAt_any _ _ HC.out).mono ?_
  rintro e w' ⟨rfl, rfl⟩
  go_wp2_with fail
  refine (wideAt_any _ _ HD.out).mono ?_
  rintro e w' ⟨rfl, rfl⟩
  go_wp2_with fail
  refine (M2.out _).mono ?_
  rintro e w2 ⟨rfl, k2⟩
  go_wp2_with fail
  refine (O.out _).mono ?_
  rintro e w3 ⟨rfl, k3⟩
  go_wp2
  go_ret
  exact ⟨rfl, (by (repeat (first | with_reducible assumption | with_reducible exact Kp.refl _ | with_reducible refine Kp.drew ?_ | with_reducible refine Kp.drewN ?_ _ | with_reducible refine Kp.alloc ?_ _ | ((with_reducible refine Kp.setCell ?_ ?_ _); rotate_left; (focus (first | omega | (simp; done) | (simp; omega)))) | with_reducible refine Kp.trans ?_ (by assumption))))⟩

set_option maxHeartbeats 1000000 in
theorem wideAwake_any (w : World) : Calls Try.prog 48 #[] w fun e w' => e = .returned (.bool true) ∧ Kp w w' := by
  have i : ∀ n : Nat, n < 100 → I64 (n : Int) := fun n h => ⟨by omega, by omega⟩
  have r := fun w => ratio_any 10 10 3 w (i 10 (by decide)) (i 10 (by decide)) (i 3 (by decide))
  have rv : ratio 10 10 3 = some 33 := by decide
  rw [rv] at r
  have m := wideMul_any 9223372036854775808 6 (by decide) (by decide)
  have c := fun w => wideCmp_any 2 3 5 1 w (i 2 (by decide)) (i 3 (by decide)) (i 5 (by decide)) (i 1 (by decide))
  have cv : cmpN (pos 2 * pos 3) (pos 5 * pos 1) = 1 := by decide
  rw [cv] at c
  have R := Lib.hid r; have M := Lib.hid m; have C := Lib.hid c
  clear r m c rv cv i
  unfold num at *
  go_enter Try.func48, Try.ntmps48
  go_wp2_with (first
    | (go_at_call 44; go_must (refine (R.out _).mono ?_); rintro e w' ⟨rfl, kk⟩)
    | (go_at_call 55; go_must (refine (M.out _).mono ?_); rintro e w' ⟨rfl, kk⟩)
    | (go_at_call 46; go_must (refine (C.out _).mono ?_); rintro e w' ⟨rfl, kk⟩))
  go_ret
  exact ⟨rfl, (by (repeat (first | with_reducible assumption | with_reducible exact Kp.refl _ | with_reducible refine Kp.drew ?_ | with_reducible refine Kp.drewN ?_ _ | with_reducible refine Kp.alloc ?_ _ | ((with_reducible refine Kp.setCell ?_ ?_ _); rotate_left; (focus (first | omega | (simp; done) | (simp; omega)))) | with_reducible refine Kp.trans ?_ (by assumption))))⟩

theorem back_words {Z r b H L H2 L2 : Nat} (hH : Z / 18446744073709551616 = H) (hL : Z % 18446744073709551616 = L) (hZr : Z + r < 18446744073709551616 * b)
    (h2 : H + 0 + (L + r) / 18446744073709551616 = H2) (l2 : (L + r) % 18446744073709551616 = L2) : H2 * 18446744073709551616 + L2 = Z + r ∧ H2 < b := by
  have e1 := Nat.div_add_mod Z 18446744073709551616
  have e2 := Nat.div_add_mod (L + r) 18446744073709551616
  have e3 : L2 < 18446744073709551616 := by rw [← l2]; exact Nat.mod_lt _ (by omega)
  rw [hH, hL] at e1
  obtain ⟨q, hq⟩ : ∃ q, (L + r) / 18446744073709551616 = q := ⟨_, rfl⟩
  rw [l2, hq] at e2
  rw [hq] at h2
  clear hH hL l2 hq
  have e4 : H2 * 18446744073709551616 + L2 = Z + r := by rw [← h2]; omega
  refine ⟨e4, ?_⟩
  rcases Nat.lt_or_ge H2 b with h | h
  · exact h
  · have h3 : b * 18446744073709551616 ≤ H2 * 18446744073709551616 := Nat.mul_le_mul_right _ h
    rw [Nat.mul_comm] at hZr
    omega

set_option maxRecDepth 100000 in
set_option maxHeartbeats 2000000 in
theorem wideBack_any (a b c : Nat) (ha : a < 18446744073709551616) (hb : b < 18446744073709551616) (_hc : c < 18446744073709551616) (w : World) :
    Calls Try.prog 13 #[.int .u64 a, .int .u64 b, .int .u64 c] w fun e w' => e = .returned (.bool true) ∧ Kp w w' := by
  have m := wideMul_any a b ha hb
  rcases Nat.eq_zero_or_pos b with h | h
  · subst h
    rw [Nat.mul_zero, Nat.zero_div, Nat.zero_mod] at m
    have m2 : ∀ w : World, Calls Try.prog 55 #[.int .u64 a, .int .u64 0] w fun e w' => e = .returned (.agg #[.int .u64 0, .int .u64 0]) ∧ Kp w w' := m
    have n2 : ∀ w : World, Calls Try.prog 52 #[.agg #[.int .u64 0, .int .u64 0], .int .u64 0] w fun e w' => e = .returned (.tuple #[.agg #[.int .u64 0, .int .u64 0], .int .u64 0, .bool false]) ∧ Kp w w' := numDiv0_any 0 0
    have M := Lib.hid m2; have N := Lib.hid n2
    clear m m2 n2
    go_enter Try.func13, Try.ntmps13
    go_wp2_with (first
      | (go_at_call 55; go_must (refine (M.out _).mono ?_); rintro e w' ⟨rfl, kk⟩)
      | (go_at_call 52; go_must (refine (N.out _).mono ?_); rintro e w' ⟨rfl, kk⟩)
      | (go_at_call 48; go_must (refine (wideAwake_any _).mono ?_); rintro e w' ⟨rfl, kk⟩))
    go_ret
    exact ⟨rfl, (by (repeat (first | with_reducible assumption | with_reducible exact Kp.refl _ | with_reducible refine Kp.drew ?_ | with_reducible refine Kp.drewN ?_ _ | with_reducible refine Kp.alloc ?_ _ | ((with_reducible refine Kp.setCell ?_ ?_ _); rotate_left; (focus (first | omega | (simp; done) | (simp; omega)))) | with_reducible refine Kp.trans ?_ (by assumption))))⟩
  · have hxy : a * b < 18446744073709551616 * b := Nat.mul_lt_mul_of_pos_right ha h
    obtain ⟨r, hr⟩ : ∃ r : Nat, c % b = r := ⟨_, rfl⟩
    have hrb : r < b := by rw [← hr]; exact Nat.mod_lt _ h
    have rr : (c : Int).tmod (b : Int) = (r : Int) := by rw [← Int.ofNat_tmod, hr]
    clear hr
    obtain ⟨Z, hZ⟩ : ∃ Z : Nat, a * b = Z := ⟨_, rfl⟩
    rw [hZ] at m hxy
    obtain ⟨H, hH⟩ : ∃ k : Nat, Z / 18446744073709551616 = k := ⟨_, rfl⟩
    obtain ⟨L, hL⟩ : ∃ k : Nat, Z % 18446744073709551616 = k := ⟨_, rfl⟩
    rw [hH, hL] at m
    have bL : L < 18446744073709551616 := by omega
    have hHb : H * 18446744073709551616 + L = Z := by omega
    have hHb2 : H < b := by omega
    have hZr : Z + r < 18446744073709551616 * b := by
      have h4 : (a + 1) * b ≤ 18446744073709551616 * b := Nat.mul_le_mul_right b (by omega)
      rw [Nat.add_mul, hZ, Nat.one_mul] at h4
      omega
    have n := numAdd_any H L 0 r (by omega) bL (by omega) (by omega)
    obtain ⟨H2, hH2⟩ : ∃ k : Nat, H + 0 + (L + r) / 18446744073709551616 = k := ⟨_, rfl⟩
    obtain ⟨L2, hL2⟩ : ∃ k : Nat, (L + r) % 18446744073709551616 = k := ⟨_, rfl⟩
    obtain ⟨h5, h2b⟩ := back_words hH hL hZr hH2 hL2
    rw [hH2, hL2] at n
    rw [if_pos (by omega : H2 < 18446744073709551616)] at n
    have bL2 : L2 < 18446744073709551616 := by omega
    have d := numDiv_any H2 L2 b h hb (by omega) bL2
    have e0 : H2 / b = 0 := Nat.div_eq_of_lt h2b
    have e1 : H2 % b = H2 := Nat.mod_eq_of_lt h2b
    have e2 : H2 * 18446744073709551616 + L2 = b * a + r := by rw [Nat.mul_comm b, hZ]; exact h5
    rw [e0, e1, e2, Nat.mul_add_div h, Nat.div_eq_of_lt hrb, Nat.mul_add_mod, Nat.mod_eq_of_lt hrb, Nat.add_zero] at d
    have M := Lib.hid m; have N := Lib.hid n; have D := Lib.hid d
    clear m n d e0 e1 e2 h5 hH2 hL2 hH hL hHb hZr hxy hZ
    have hb0 : ((b : Int) == 0) = false := by rw [beq_eq_false_iff_ne]; omega
    have hb1 : b ≠ 0 := by omega
    unfold num at *
    go_enter Try.func13, Try.ntmps13
    go_wp2_with fail
    (refine wp_region_held_drew (S := (fun w' => (∀ b o, b < w.heap.size → w'.cell? ⟨b, o, none⟩ = w.cell? ⟨b, o, none⟩) ∧ Kp w w')) (by kernel_rfl) ?_ (fun hHd => ?_); (focus ((try dsimp only); (first | with_reducible assumption | with_reducible exact held_start _ | with_reducible exact held_next (by assumption) (by assumption) | with_reducible exact held_alloc (by assumption) _ | with_reducible exact held_drew (by assumption) | ((with_reducible refine held_kp ?_); (repeat (first | with_reducible assumption | with_reducible exact Kp.refl _ | with_reducible refine Kp.drew ?_ | with_reducible refine Kp.drewN ?_ _ | with_reducible refine Kp.alloc ?_ _ | ((with_reducible refine Kp.setCell ?_ ?_ _); rotate_left; (focus (first | omega | (simp; done) | (simp; omega)))) | with_reducible refine Kp.trans ?_ (by assumption))))))))
    (refine takeH (i := 0) (oi := ?o19) (v := ?v19) ?h19 (by kernel_rfl) ?q19 (Or.inl ⟨?w19, ?y19⟩) (by assumption) ?r19; (case h19 => ((simp only [g1, g3]); rfl)); (case q19 => exact fun _ _ _ h => h); (case w19 => rfl); (case y19 => (intro w' hSw; (try dsimp only at hSw); go_simp; (try with_reducible rfl))); (try simp only [Act.put, s1, s2, s3]))
    (refine takeH (i := 1) (oi := ?o20) (v := ?v20) ?h20 (by kernel_rfl) ?q20 (Or.inl ⟨?w20, ?y20⟩) (by assumption) ?r20; (case h20 => ((simp only [g1, g2, g3]); rfl)); (case q20 => exact fun _ _ _ h => h); (case w20 => rfl); (case y20 => (intro w' hSw; (try dsimp only at hSw); go_simp; (try with_reducible rfl))); (try simp only [Act.put, s1, s2, s3]))
    (refine takeH (i := 3) (oi := ?o21) (v := ?v21) ?h21 (by kernel_rfl) ?q21 (Or.inl ⟨?w21, ?y21⟩) (by assumption) ?r21; (case h21 => ((simp only [g1, g2, g3]); rfl)); (case q21 => exact fun _ _ _ h => h); (case w21 => rfl); (case y21 => (intro w' hSw; (try dsimp only at hSw); go_simp; (try with_reducible rfl))); (try simp only [Act.put, s1, s2, s3]))
    (refine takeH (i := 4) (oi := ?o22) (v := ?v22) ?h22 (by kernel_rfl) ?q22 (Or.inl ⟨?w22, ?y22⟩) (by assumption) ?r22; (case h22 => ((simp only [g1, g2, g3]); rfl)); (case q22 => exact fun _ _ _ h => h); (case w22 => rfl); (case y22 => (intro w' hSw; (try dsimp only at hSw); go_simp; (try with_reducible rfl))); (try simp only [Act.put, s1, s2, s3]))
    (refine takeH (i := 5) (oi := ?o23) (v := ?v23) ?h23 (by kernel_rfl) ?q23 (Or.inl ⟨?w23, ?y23⟩) (by assumption) ?r23; (case h23 => ((simp only [g1, g2, g3]); rfl)); (case q23 => exact fun _ _ _ h => h); (case w23 => rfl); (case y23 => (intro w' hSw; (try dsimp only at hSw); go_simp; (try with_reducible rfl))); (try simp only [Act.put, s1, s2, s3]))
    (refine takeH (i := 6) (oi := ?o24) (v := ?v24) ?h24 (by kernel_rfl) ?q24 (Or.inl ⟨?w24, ?y24⟩) (by assumption) ?r24; (case h24 => ((simp only [g1, g2, g3]); rfl)); (case q24 => exact fun _ _ _ h => h); (case w24 => rfl); (case y24 => (intro w' hSw; (try dsimp only at hSw); go_simp; (try with_reducible rfl))); (try simp only [Act.put, s1, s2, s3]))
    (refine wpAnyH_ready (rs := [2, 11]) (by kernel_rfl) (by simp) ?_; refine (AllReadyH.cons (o := ?o25) ?h25 (fun K hK => ?s25) (AllReadyH.cons (o := ?o26) ?h26 (fun K hK => ?s26) AllReadyH.nil)); (case h25 => (first | ((simp only [g1, g2, g3]); rfl) | rfl)); (case h26 => (first | ((simp only [g1, g2, g3]); rfl) | rfl)))
    (go_simp; (first | (go_at_call 55; go_must (refine (M.out _).mono ?_); rintro e w' ⟨rfl, kk⟩; have ksz := (hHd.2.trans kk).size; (try (have zb := Blk.kp (by first | with_reducible assumption | exact Blk.new _ _ _ | exact (Blk.new _ _ _).drew) kk; have zc0 := zb.cell 0 rfl; have zc1 := zb.cell 1 rfl; have zf0 := zb.free 0; have zf1 := zb.free 1))) | (go_at_call 50; go_must (refine (N.out _).mono ?_); rintro e w' ⟨rfl, kk⟩; have ksz := (hHd.2.trans kk).size; (try (have zb := Blk.kp (by first | with_reducible assumption | exact Blk.new _ _ _ | exact (Blk.new _ _ _).drew) kk; have zc0 := zb.cell 0 rfl; have zc1 := zb.cell 1 rfl; have zf0 := zb.free 0; have zf1 := zb.free 1)))); (try go_wp2_with fail); refine hK.out _ _ ?_ (fun hHd => ?_); (focus ((try dsimp only); (first | with_reducible assumption | with_reducible exact held_next (by assumption) (by assumption) | with_reducible exact held_alloc (by assumption) _))); clear hK K; (try simp only [Act.put, s1, s2, s3]))
    (refine wpAnyH_ready (rs := [7, 11]) (by kernel_rfl) (by simp) ?_; refine (AllReadyH.cons (o := ?o27) ?h27 (fun K hK => ?s27) (AllReadyH.cons (o := ?o28) ?h28 (fun K hK => ?s28) AllReadyH.nil)); (case h27 => (first | ((simp only [g1, g2, g3]); rfl) | rfl)); (case h28 => (first | ((simp only [g1, g2, g3]); rfl) | rfl)))
    (go_simp; (first | (go_at_call 55; go_must (refine (M.out _).mono ?_); rintro e w' ⟨rfl, kk⟩; have ksz := (hHd.2.trans kk).size; (try (have zb := Blk.kp (by first | with_reducible assumption | exact Blk.new _ _ _ | exact (Blk.new _ _ _).drew) kk; have zc0 := zb.cell 0 rfl; have zc1 := zb.cell 1 rfl; have zf0 := zb.free 0; have zf1 := zb.free 1))) | (go_at_call 50; go_must (refine (N.out _).mono ?_); rintro e w' ⟨rfl, kk⟩; have ksz := (hHd.2.trans kk).size; (try (have zb := Blk.kp (by first | with_reducible assumption | exact Blk.new _ _ _ | exact (Blk.new _ _ _).drew) kk; have zc0 := zb.cell 0 rfl; have zc1 := zb.cell 1 rfl; have zf0 := zb.free 0; have zf1 := zb.free 1)))); (try go_wp2_with fail); refine hK.out _ _ ?_ (fun hHd => ?_); (focus ((try dsimp only); (first | with_reducible assumption | with_reducible exact held_next (by assumption) (by assumption) | with_reducible exact held_alloc (by assumption) _))); clear hK K; (try simp only [Act.put, s1, s2, s3]))
    (refine takeH (i := 8) (oi := ?o29) (v := ?v29) ?h29 (by kernel_rfl) ?q29 (Or.inl ⟨?w29, ?y29⟩) (by assumption) ?r29; (case h29 => ((simp only [g1, g2, g3]); rfl)); (case q29 => exact fun _ _ _ h => h); (case w29 => rfl); (case y29 => (intro w' hSw; (try dsimp only at hSw); go_simp; (try with_reducible rfl))); (try simp only [Act.put, s1, s2, s3]))
    (refine takeH (i := 9) (oi := ?o30) (v := ?v30) ?h30 (by kernel_rfl) ?q30 (Or.inl ⟨?w30, ?y30⟩) (by assumption) ?r30; (case h30 => ((simp only [g1, g2, g3]); rfl)); (case q30 => exact fun _ _ _ h => h); (case w30 => rfl); (case y30 => (intro w' hSw; (try dsimp only at hSw); go_simp; (try with_reducible rfl))); (try simp only [Act.put, s1, s2, s3]))
    (refine takeH (i := 10) (oi := ?o31) (v := ?v31) ?h31 (by kernel_rfl) ?q31 (Or.inl ⟨?w31, ?y31⟩) (by assumption) ?r31; (case h31 => ((simp only [g1, g2, g3]); rfl)); (case q31 => exact fun _ _ _ h => h); (case w31 => rfl); (case y31 => (intro w' hSw; (try dsimp only at hSw); go_simp; (try with_reducible rfl))); (try simp only [Act.put, s1, s2, s3]))
    (refine wpAnyH_ready (rs := [11]) (by kernel_rfl) (by simp) ?_; refine AllReadyH.cons (o := ?o32) ?h32 (fun K hK => ?s32) AllReadyH.nil; (case h32 => (first | ((simp only [g1, g2, g3]); rfl) | rfl)); go_simp; (try go_wp2_with fail); refine hK.out _ _ ?_ (fun hHd => ?_); (focus ((try dsimp only); (first | with_reducible assumption | with_reducible exact held_start _ | with_reducible exact held_next (by assumption) (by assumption) | with_reducible exact held_alloc (by assumption) _ | with_reducible exact held_drew (by assumption) | ((with_reducible refine held_kp ?_); (repeat (first | with_reducible assumption | with_reducible exact Kp.refl _ | with_reducible refine Kp.drew ?_ | with_reducible refine Kp.drewN ?_ _ | with_reducible refine Kp.alloc ?_ _ | ((with_reducible refine Kp.setCell ?_ ?_ _); rotate_left; (focus (first | omega | (simp; done) | (simp; omega)))) | with_reducible refine Kp.trans ?_ (by assumption))))))); clear hK K; (try simp only [Act.put, s1, s2, s3]))
    (refine wpAnyH_ready (rs := [12]) (by kernel_rfl) (by simp) ?_; refine AllReadyH.cons (o := ?o33) ?h33 (fun K hK => ?s33) AllReadyH.nil; (case h33 => (first | ((simp only [g1, g2, g3]); rfl) | rfl)); go_simp; (try go_wp2_with fail); refine hK.out _ _ ?_ (fun hHd => ?_); (focus ((try dsimp only); (first | with_reducible assumption | with_reducible exact held_start _ | with_reducible exact held_next (by assumption) (by assumption) | with_reducible exact held_alloc (by assumption) _ | with_reducible exact held_drew (by assumption) | ((with_reducible refine held_kp ?_); (repeat (first | with_reducible assumption | with_reducible exact Kp.refl _ | with_reducible refine Kp.drew ?_ | with_reducible refine Kp.drewN ?_ _ | with_reducible refine Kp.alloc ?_ _ | ((with_reducible refine Kp.setCell ?_ ?_ _); rotate_left; (focus (first | omega | (simp; done) | (simp; omega)))) | with_reducible refine Kp.trans ?_ (by assumption))))))); clear hK K; (try simp only [Act.put, s1, s2, s3]))
    (refine takeH (i := 13) (oi := ?o34) (v := ?v34) ?h34 (by kernel_rfl) ?q34 (Or.inl ⟨?w34, ?y34⟩) (by assumption) ?r34; (case h34 => ((simp only [g1, g2, g3]); rfl)); (case q34 => exact fun _ _ _ h => h); (case w34 => rfl); (case y34 => (intro w' hSw; (try dsimp only at hSw); go_simp; (try with_reducible rfl))); (try simp only [Act.put, s1, s2, s3]))
    refine wpAnyH_done (by kernel_rfl) ?_ _
    rotate_left
    (go_simp; (try go_wp2_with fail); refine hK.out _ _ ?_ (fun hHd => ?_); (focus ((try dsimp only); (first | with_reducible assumption | with_reducible exact held_start _ | with_reducible exact held_next (by assumption) (by assumption) | with_reducible exact held_alloc (by assumption) _ | with_reducible exact held_drew (by assumption) | ((with_reducible refine held_kp ?_); (repeat (first | with_reducible assumption | with_reducible exact Kp.refl _ | with_reducible refine Kp.drew ?_ | with_reducible refine Kp.drewN ?_ _ | with_reducible refine Kp.alloc ?_ _ | ((with_reducible refine Kp.setCell ?_ ?_ _); rotate_left; (focus (first | omega | (simp; done) | (simp; omega)))) | with_reducible refine Kp.trans ?_ (by assumption))))))); clear hK K; (try simp only [Act.put, s1, s2, s3]))
    (refine wpAnyH_ready (rs := [7]) (by kernel_rfl) (by simp) ?_; refine AllReadyH.cons (o := ?o35) ?h35 (fun K hK => ?s35) AllReadyH.nil; (case h35 => (first | ((simp only [g1, g2, g3]); rfl) | rfl)); go_simp; (first | (go_at_call 55; go_must (refine (M.out _).mono ?_); rintro e w' ⟨rfl, kk⟩; have ksz := (hHd.2.trans kk).size; (try (have zb := Blk.kp (by first | with_reducible assumption | exact Blk.new _ _ _ | exact (Blk.new _ _ _).drew) kk; have zc0 := zb.cell 0 rfl; have zc1 := zb.cell 1 rfl; have zf0 := zb.free 0; have zf1 := zb.free 1))) | (go_at_call 50; go_must (refine (N.out _).mono ?_); rintro e w' ⟨rfl, kk⟩; have ksz := (hHd.2.trans kk).size; (try (have zb := Blk.kp (by first | with_reducible assumption | exact Blk.new _ _ _ | exact (Blk.new _ _ _).drew) kk; have zc0 := zb.cell 0 rfl; have zc1 := zb.cell 1 rfl; have zf0 := zb.free 0; have zf1 := zb.free 1)))); (try go_wp2_with fail); refine hK.out _ _ ?_ (fun hHd => ?_); (focus ((try dsimp only); (first | with_reducible assumption | with_reducible exact held_next (by assumption) (by assumption) | with_reducible exact held_alloc (by assumption) _))); clear hK K; (try simp only [Act.put, s1, s2, s3]))
    (refine takeH (i := 8) (oi := ?o36) (v := ?v36) ?h36 (by kernel_rfl) ?q36 (Or.inl ⟨?w36, ?y36⟩) (by assumption) ?r36; (case h36 => ((simp only [g1, g2, g3]); rfl)); (case q36 => exact fun _ _ _ h => h); (case w36 => rfl); (case y36 => (intro w' hSw; (try dsimp only at hSw); go_simp; (try with_reducible rfl))); (try simp only [Act.put, s1, s2, s3]))
    (refine takeH (i := 9) (oi := ?o37) (v := ?v37) ?h37 (by kernel_rfl) ?q37 (Or.inl ⟨?w37, ?y37⟩) (by assumption) ?r37; (case h37 => ((simp only [g1, g2, g3]); rfl)); (case q37 => exact fun _ _ _ h => h); (case w37 => rfl); (case y37 => (intro w' hSw; (try dsimp only at hSw); go_simp; (try with_reducible rfl))); (try simp only [Act.put, s1, s2, s3]))
    (refine takeH (i := 10) (oi := ?o38) (v := ?v38) ?h38 (by kernel_rfl) ?q38 (Or.inl ⟨?w38, ?y38⟩) (by assumption) ?r38; (case h38 => ((simp only [g1, g2, g3]); rfl)); (case q38 => exact fun _ _ _ h => h); (case w38 => rfl); (case y38 => (intro w' hSw; (try dsimp only at hSw); go_simp; (try with_reducible rfl))); (try simp only [Act.put, s1, s2, s3]))
    (refine wpAnyH_ready (rs := [12]) (by kernel_rfl) (by simp) ?_; refine AllReadyH.cons (o := ?o39) ?h39 (fun K hK => ?s39) AllReadyH.nil; (case h39 => (first | ((simp only [g1, g2, g3]); rfl) | rfl)); go_simp; (try go_wp2_with fail); refine hK.out _ _ ?_ (fun hHd => ?_); (focus ((try dsimp only); (first | with_reducible assumption | with_reducible exact held_start _ | with_reducible exact held_next (by assumption) (by assumption) | with_reducible exact held_alloc (by assumption) _ | with_reducible exact held_drew (by assumption) | ((with_reducible refine held_kp ?_); (repeat (first | with_reducible assumption | with_reducible exact Kp.refl _ | with_reducible refine Kp.drew ?_ | with_reducible refine Kp.drewN ?_ _ | with_reducible refine Kp.alloc ?_ _ | ((with_reducible refine Kp.setCell ?_ ?_ _); rotate_left; (focus (first | omega | (simp; done) | (simp; omega)))) | with_reducible refine Kp.trans ?_ (by assumption))))))); clear hK K; (try simp only [Act.put, s1, s2, s3]))
    (refine takeH (i := 13) (oi := ?o40) (v := ?v40) ?h40 (by kernel_rfl) ?q40 (Or.inl ⟨?w40, ?y40⟩) (by assumption) ?r40; (case h40 => ((simp only [g1, g2, g3]); rfl)); (case q40 => exact fun _ _ _ h => h); (case w40 => rfl); (case y40 => (intro w' hSw; (try dsimp only at hSw); go_simp; (try with_reducible rfl))); (try simp only [Act.put, s1, s2, s3]))
    refine wpAnyH_done (by kernel_rfl) ?_ _
    rotate_left
    (go_simp; (try go_wp2_with fail); refine hK.out _ _ ?_ (fun hHd => ?_); (focus ((try dsimp only); (first | with_reducible assumption | with_reducible exact held_start _ | with_reducible exact held_next (by assumption) (by assumption) | with_reducible exact held_alloc (by assumption) _ | with_reducible exact held_drew (by assumption) | ((with_reducible refine held_kp ?_); (repeat (first | with_reducible assumption | with_reducible exact Kp.refl _ | with_reducible refine Kp.drew ?_ | with_reducible refine Kp.drewN ?_ _ | with_reducible refine Kp.alloc ?_ _ | ((with_reducible refine Kp.setCell ?_ ?_ _); rotate_left; (focus (first | omega | (simp; done) | (simp; omega)))) | with_reducible refine Kp.trans ?_ (by assumption))))))); clear hK K; (try simp only [Act.put, s1, s2, s3]))
    (refine wpAnyH_ready (rs := [2]) (by kernel_rfl) (by simp) ?_; refine AllReadyH.cons (o := ?o41) ?h41 (fun K hK => ?s41) AllReadyH.nil; (case h41 => (first | ((simp only [g1, g2, g3]); rfl) | rfl)); go_simp; (first | (go_at_call 55; go_must (refine (M.out _).mono ?_); rintro e w' ⟨rfl, kk⟩; have ksz := (hHd.2.trans kk).size; (try (have zb := Blk.kp (by first | with_reducible assumption | exact Blk.new _ _ _ | exact (Blk.new _ _ _).drew) kk; have zc0 := zb.cell 0 rfl; have zc1 := zb.cell 1 rfl; have zf0 := zb.free 0; have zf1 := zb.free 1))) | (go_at_call 50; go_must (refine (N.out _).mono ?_); rintro e w' ⟨rfl, kk⟩; have ksz := (hHd.2.trans kk).size; (try (have zb := Blk.kp (by first | with_reducible assumption | exact Blk.new _ _ _ | exact (Blk.new _ _ _).drew) kk; have zc0 := zb.cell 0 rfl; have zc1 := zb.cell 1 rfl; have zf0 := zb.free 0; have zf1 := zb.free 1)))); (try go_wp2_with fail); refine hK.out _ _ ?_ (fun hHd => ?_); (focus ((try dsimp only); (first | with_reducible assumption | with_reducible exact held_next (by assumption) (by assumption) | with_reducible exact held_alloc (by assumption) _))); clear hK K; (try simp only [Act.put, s1, s2, s3]))
    (refine wpAnyH_ready (rs := [7]) (by kernel_rfl) (by simp) ?_; refine AllReadyH.cons (o := ?o42) ?h42 (fun K hK => ?s42) AllReadyH.nil; (case h42 => (first | ((simp only [g1, g2, g3]); rfl) | rfl)); go_simp; (first | (go_at_call 55; go_must (refine (M.out _).mono ?_); rintro e w' ⟨rfl, kk⟩; have ksz := (hHd.2.trans kk).size; (try (have zb := Blk.kp (by first | with_reducible assumption | exact Blk.new _ _ _ | exact (Blk.new _ _ _).drew) kk; have zc0 := zb.cell 0 rfl; have zc1 := zb.cell 1 rfl; have zf0 := zb.free 0; have zf1 := zb.free 1))) | (go_at_call 50; go_must (refine (N.out _).mono ?_); rintro e w' ⟨rfl, kk⟩; have ksz := (hHd.2.trans kk).size; (try (have zb := Blk.kp (by first | with_reducible assumption | exact Blk.new _ _ _ | exact (Blk.new _ _ _).drew) kk; have zc0 := zb.cell 0 rfl; have zc1 := zb.cell 1 rfl; have zf0 := zb.free 0; have zf1 := zb.free 1)))); (try go_wp2_with fail); refine hK.out _ _ ?_ (fun hHd => ?_); (focus ((try dsimp only); (first | with_reducible assumption | with_reducible exact held_next (by assumption) (by assumption) | with_reducible exact held_alloc (by assumption) _))); clear hK K; (try simp only [Act.put, s1, s2, s3]))
    (refine takeH (i := 8) (oi := ?o43) (v := ?v43) ?h43 (by kernel_rfl) ?q43 (Or.inl ⟨?w43, ?y43⟩) (by assumption) ?r43; (case h43 => ((simp only [g1, g2, g3]); rfl)); (case q43 => exact fun _ _ _ h => h); (case w43 => rfl); (case y43 => (intro w' hSw; (try dsimp only at hSw); go_simp; (try with_reducible rfl))); (try simp only [Act.put, s1, s2, s3]))
    (refine takeH (i := 9) (oi := ?o44) (v := ?v44) ?h44 (by kernel_rfl) ?q44 (Or.inl ⟨?w44, ?y44⟩) (by assumption) ?r44; (case h44 => ((simp only [g1, g2, g3]); rfl)); (case q44 => exact fun _ _ _ h => h); (case w44 => rfl); (case y44 => (intro w' hSw; (try dsimp only at hSw); go_simp; (try with_reducible rfl))); (try simp only [Act.put, s1, s2, s3]))
    (refine takeH (i := 10) (oi := ?o45) (v := ?v45) ?h45 (by kernel_rfl) ?q45 (Or.inl ⟨?w45, ?y45⟩) (by assumption) ?r45; (case h45 => ((simp only [g1, g2, g3]); rfl)); (case q45 => exact fun _ _ _ h => h); (case w45 => rfl); (case y45 => (intro w' hSw; (try dsimp only at hSw); go_simp; (try with_reducible rfl))); (try simp only [Act.put, s1, s2, s3]))
    (refine wpAnyH_ready (rs := [12]) (by kernel_rfl) (by simp) ?_; refine AllReadyH.cons (o := ?o46) ?h46 (fun K hK => ?s46) AllReadyH.nil; (case h46 => (first | ((simp only [g1, g2, g3]); rfl) | rfl)); go_simp; (try go_wp2_with fail); refine hK.out _ _ ?_ (fun hHd => ?_); (focus ((try dsimp only); (first | with_reducible assumption | with_reducible exact held_start _ | with_reducible exact held_next (by assumption) (by assumption) | with_reducible exact held_alloc (by assumption) _ | with_reducible exact held_drew (by assumption) | ((with_reducible refine held_kp ?_); (repeat (first | with_reducible assumption | with_reducible exact Kp.refl _ | with_reducible refine Kp.drew ?_ | with_reducible refine Kp.drewN ?_ _ | with_reducible refine Kp.alloc ?_ _ | ((with_reducible refine Kp.setCell ?_ ?_ _); rotate_left; (focus (first | omega | (simp; done) | (simp; omega)))) | with_reducible refine Kp.trans ?_ (by assumption))))))); clear hK K; (try simp only [Act.put, s1, s2, s3]))
    (refine takeH (i := 13) (oi := ?o47) (v := ?v47) ?h47 (by kernel_rfl) ?q47 (Or.inl ⟨?w47, ?y47⟩) (by assumption) ?r47; (case h47 => ((simp only [g1, g2, g3]); rfl)); (case q47 => exact fun _ _ _ h => h); (case w47 => rfl); (case y47 => (intro w' hSw; (try dsimp only at hSw); go_simp; (try with_reducible rfl))); (try simp only [Act.put, s1, s2, s3]))
    refine wpAnyH_done (by kernel_rfl) ?_ _
    rotate_left
    all_goals
      go_wp2_with (first
        | (go_at_call 52; go_must (refine (D.out _).mono ?_); rintro e w' ⟨rfl, kk⟩)
        | (go_at_call 48; go_must (refine (wideAwake_any _).mono ?_); rintro e w' ⟨rfl, kk⟩))
      go_ret
      exact ⟨rfl, (by (repeat (first | with_reducible assumption | with_reducible exact Kp.refl _ | with_reducible refine Kp.drew ?_ | with_reducible refine Kp.drewN ?_ _ | with_reducible refine Kp.alloc ?_ _ | ((with_reducible refine Kp.setCell ?_ ?_ _); rotate_left; (focus (first | omega | (simp; done) | (simp; omega)))) | with_reducible refine Kp.trans ?_ (by assumption))))⟩
theorem wideBack_int (a b c : Int) (ha : 0 ≤ a ∧ a ≤ 18446744073709551615) (hb : 0 ≤ b ∧ b ≤ 18446744073709551615) (hc : 0 ≤ c ∧ c ≤ 18446744073709551615) (w : World) :
    Calls Try.prog 13 #[.int .u64 a, .int .u64 b, .int .u64 c] w fun e w' => e = .returned (.bool true) ∧ Kp w w' := by
  obtain ⟨x, rfl⟩ := Int.eq_ofNat_of_zero_le ha.1
  obtain ⟨y, rfl⟩ := Int.eq_ofNat_of_zero_le hb.1
  obtain ⟨z, rfl⟩ := Int.eq_ofNat_of_zero_le hc.1
  exact wideBack_any x y z (by omega) (by omega) (by omega) w

/-- The three ratios of the law. -/
theorem ratio_part {a b c : Int} (ha : 0 ≤ a) (hb : 0 ≤ b) (hbc : b ≤ c) (hc : 1 ≤ c) (hA : I64 a) : ratio a b c = some (a * b / c) ∧ 0 ≤ a * b / c ∧ a * b / c ≤ a := by
  have h1 : a * b ≤ a * c := Int.mul_le_mul_of_nonneg_left hbc ha
  have h2 : a * b / c ≤ a := by
    have h3 := Int.ediv_le_ediv (by omega : 0 < c) h1
    rwa [Int.mul_ediv_cancel _ (by omega)] at h3
  have h0 : 0 ≤ a * b / c := Int.ediv_nonneg (Int.mul_nonneg ha hb) (by omega)
  refine ⟨?_, h0, h2⟩
  unfold ratio
  rw [if_neg (by omega), if_pos (by have := hA.2; omega)]
theorem ratio_grows {a b c d : Int} (ha : 0 ≤ a) (hbd : b ≤ d) (hc : 1 ≤ c) : a * b / c ≤ a * d / c :=
  Int.ediv_le_ediv (by omega) (Int.mul_le_mul_of_nonneg_left hbd ha)

set_option maxRecDepth 100000 in
set_option maxHeartbeats 1000000 in
theorem wideShares_any (a b c : Int) (ha : I64 a) (hb : I64 b) (hc : I64 c) (w : World) :
    Calls Try.prog 11 #[.int .i64 a, .int .i64 b, .int .i64 c] w fun e w' => e = .returned (.bool true) ∧ Kp w w' := by
  by_cases h : a < 0 ∨ b < 0 ∨ c < b ∨ c < 1
  · by_cases h1 : a < 0
    · go_enter Try.func11, Try.ntmps11
      go_wp2_with (go_at_call 48; go_must (refine (wideAwake_any _).mono ?_); rintro e w' ⟨rfl, kk⟩)
      go_ret
      exact ⟨rfl, (by (repeat (first | with_reducible assumption | with_reducible exact Kp.refl _ | with_reducible refine Kp.drew ?_ | with_reducible refine Kp.drewN ?_ _ | with_reducible refine Kp.alloc ?_ _ | ((with_reducible refine Kp.setCell ?_ ?_ _); rotate_left; (focus (first | omega | (simp; done) | (simp; omega)))) | with_reducible refine Kp.trans ?_ (by assumption))))⟩
    · by_cases h2 : b < 0
      · go_enter Try.func11, Try.ntmps11
        go_wp2_with (go_at_call 48; go_must (refine (wideAwake_any _).mono ?_); rintro e w' ⟨rfl, kk⟩)
        go_ret
        exact ⟨rfl, (by (repeat (first | with_reducible assumption | with_reducible exact Kp.refl _ | with_reducible refine Kp.drew ?_ | with_reducible refine Kp.drewN ?_ _ | with_reducible refine Kp.alloc ?_ _ | ((with_reducible refine Kp.setCell ?_ ?_ _); rotate_left; (focus (first | omega | (simp; done) | (simp; omega)))) | with_reducible refine Kp.trans ?_ (by assumption))))⟩
      · by_cases h3 : c < b
        · go_enter Try.func11, Try.ntmps11
          go_wp2_with (go_at_call 48; go_must (refine (wideAwake_any _).mono ?_); rintro e w' ⟨rfl, kk⟩)
          go_ret
          exact ⟨rfl, (by (repeat (first | with_reducible assumption | with_reducible exact Kp.refl _ | with_reducible refine Kp.drew ?_ | with_reducible refine Kp.drewN ?_ _ | with_reducible refine Kp.alloc ?_ _ | ((with_reducible refine Kp.setCell ?_ ?_ _); rotate_left; (focus (first | omega | (simp; done) | (simp; omega)))) | with_reducible refine Kp.trans ?_ (by assumption))))⟩
        · have h4 : c < 1 := by omega
          go_enter Try.func11, Try.ntmps11
          go_wp2_with (go_at_call 48; go_must (refine (wideAwake_any _).mono ?_); rintro e w' ⟨rfl, kk⟩)
          go_ret
          exact ⟨rfl, (by (repeat (first | with_reducible assumption | with_reducible exact Kp.refl _ | with_reducible refine Kp.drew ?_ | with_reducible refine Kp.drewN ?_ _ | with_reducible refine Kp.alloc ?_ _ | ((with_reducible refine Kp.setCell ?_ ?_ _); rotate_left; (focus (first | omega | (simp; done) | (simp; omega)))) | with_reducible refine Kp.trans ?_ (by assumption))))⟩
  · have g1 : ¬ a < 0 := by omega
    have g2 : ¬ b < 0 := by omega
    have g3 : ¬ c < b := by omega
    have g4 : ¬ c < 1 := by omega
    have hh : I64 (b / 2) := ⟨by omega, by have := hb.2; omega⟩
    obtain ⟨r1, p1, q1⟩ := ratio_part (by omega : 0 ≤ a) (by omega : 0 ≤ b) (by omega : b ≤ c) (by omega) ha
    obtain ⟨r2, p2, q2⟩ := ratio_part (by omega : 0 ≤ a) (by omega : 0 ≤ b / 2) (by omega : b / 2 ≤ c) (by omega) ha
    obtain ⟨r3, _, _⟩ := ratio_part (by omega : 0 ≤ a) (by omega : 0 ≤ c) (by omega : c ≤ c) (by omega) ha
    have q4 := ratio_grows (by omega : 0 ≤ a) (by omega : b / 2 ≤ b) (by omega : 1 ≤ c)
    rw [Int.mul_ediv_cancel _ (by omega)] at r3
    have t := fun w => ratio_any a b c w ha hb hc
    have u := fun w => ratio_any a (b / 2) c w ha hh hc
    have v := fun w => ratio_any a c c w ha hc hc
    rw [r1] at t; rw [r2] at u; rw [r3] at v
    obtain ⟨x, hx⟩ : ∃ x, a * b / c = x := ⟨_, rfl⟩
    obtain ⟨y, hy⟩ : ∃ y, a * (b / 2) / c = y := ⟨_, rfl⟩
    rw [hx] at t q1 q4; rw [hy] at u q4
    have hq : b.tdiv 2 = b / 2 := Int.tdiv_eq_ediv_of_nonneg (by omega)
    have bT := hb.2
    have T := Lib.hid t; have U := Lib.hid u; have V := Lib.hid v
    clear t u v r1 r2 r3 p1 p2 q2 hx hy ha hb hc hh h
    go_enter Try.func11, Try.ntmps11
    go_wp2_with fail
    refine (T.out _).mono ?_
    rintro e w1 ⟨rfl, k1⟩
    go_wp2_with fail
    refine (U.out _).mono ?_
    rintro e w2 ⟨rfl, k2⟩
    go_wp2_with fail
    refine (V.out _).mono ?_
    rintro e w3 ⟨rfl, k3⟩
    go_wp2_with (go_at_call 48; go_must (refine (wideAwake_any _).mono ?_); rintro e w' ⟨rfl, kk⟩)
    go_ret
    exact ⟨rfl, (by (repeat (first | with_reducible assumption | with_reducible exact Kp.refl _ | with_reducible refine Kp.drew ?_ | with_reducible refine Kp.drewN ?_ _ | with_reducible refine Kp.alloc ?_ _ | ((with_reducible refine Kp.setCell ?_ ?_ _); rotate_left; (focus (first | omega | (simp; done) | (simp; omega)))) | with_reducible refine Kp.trans ?_ (by assumption))))⟩
end Go.Proofs.Ytepckgcbncdibaa
