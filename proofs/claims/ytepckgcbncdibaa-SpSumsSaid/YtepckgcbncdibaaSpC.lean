/- The next multiples below and above; the reference's product: packages sp and tympanref01. -/
import Derived.Test.YtepckgcbncdibaaSpB
namespace Go.Proofs.Ytepckgcbncdibaa
open Go.RowKit

set_option maxRecDepth 100000 in
set_option maxHeartbeats 1000000 in
theorem refMul_any (a n : Int) (w : World) (ha : I64 a) (hn : I64 n) :
    Calls Try.prog 39 #[.int .i64 a, .int .i64 n] w fun e w' => e = .returned (.agg #[.int .i64 (clip (a * n)), .bool (fits (a * n))]) ∧ Kp w w' := by
  by_cases a0 : a = 0
  · subst a0
    rw [Int.zero_mul, clip_yes (fits_yes (by omega) (by omega)), fits_yes (by omega) (by omega)]
    go_enter Try.func39, Try.ntmps39
    go_wp2
    exact bodyPost_ret (v := .agg #[.int .i64 0, .bool true]) (by simp [results, Try.results39, go_sem]) rfl ⟨rfl, (by (repeat (first | with_reducible assumption | with_reducible exact Kp.refl _ | with_reducible refine Kp.drew ?_ | with_reducible refine Kp.drewN ?_ _ | with_reducible refine Kp.alloc ?_ _ | ((with_reducible refine Kp.setCell ?_ ?_ _); rotate_left; (focus (first | omega | (simp; done) | (simp; omega)))) | with_reducible refine Kp.trans ?_ (by assumption))))⟩
  by_cases n0 : n = 0
  · subst n0
    rw [Int.mul_zero, clip_yes (fits_yes (by omega) (by omega)), fits_yes (by omega) (by omega)]
    have az : (a == 0) = false := by rw [beq_eq_false_iff_ne]; exact a0
    go_enter Try.func39, Try.ntmps39
    go_wp2
    exact bodyPost_ret (v := .agg #[.int .i64 0, .bool true]) (by simp [results, Try.results39, go_sem]) rfl ⟨rfl, (by (repeat (first | with_reducible assumption | with_reducible exact Kp.refl _ | with_reducible refine Kp.drew ?_ | with_reducible refine Kp.drewN ?_ _ | with_reducible refine Kp.alloc ?_ _ | ((with_reducible refine Kp.setCell ?_ ?_ _); rotate_left; (focus (first | omega | (simp; done) | (simp; omega)))) | with_reducible refine Kp.trans ?_ (by assumption))))⟩
  have az : (a == 0) = false := by rw [beq_eq_false_iff_ne]; exact a0
  have nz : (n == 0) = false := by rw [beq_eq_false_iff_ne]; exact n0
  obtain ⟨z, hz⟩ : ∃ z, a * n = z := ⟨_, rfl⟩
  obtain ⟨y, hy⟩ : ∃ y, n.natAbs = y := ⟨_, rfl⟩
  obtain ⟨x, hx⟩ : ∃ x, a.natAbs = x := ⟨_, rfl⟩
  obtain ⟨p, hp⟩ : ∃ p, x * y = p := ⟨_, rfl⟩
  have hs := @mul_same a n
  have hu := @mul_unlike a n
  rw [hz, hx, hy, hp] at hs hu
  have y0 : 0 < y := by omega
  have yn : ¬ ((y : Int) = 0) := by omega
  have yz : ((y : Int) == 0) = false := by rw [beq_eq_false_iff_ne]; exact yn
  have sa := refSize_any a
  have sn := refSize_any n
  rw [hx] at sa; rw [hy] at sn
  have SA := Lib.hid (fun w => sa w ha); have SN := Lib.hid (fun w => sn w hn)
  have HZ := Lib.hid hz
  have top : ∀ t : Nat, t / y < x ↔ t < p := fun t => by rw [Nat.div_lt_iff_lt_mul y0, hp]
  have quo : ∀ t : Nat, (t : Int).tdiv (y : Int) = ((t / y : Nat) : Int) := fun t => (Int.ofNat_tdiv t y).symm
  have t1 := top 9223372036854775807; have t2 := top 9223372036854775808
  have q1 : (9223372036854775807 : Int).tdiv (y : Int) = ((9223372036854775807 / y : Nat) : Int) := quo 9223372036854775807
  have q2 : (9223372036854775808 : Int).tdiv (y : Int) = ((9223372036854775808 / y : Nat) : Int) := quo 9223372036854775808
  have q1' : (9223372036854775807 : Int) / (y : Int) = ((9223372036854775807 / y : Nat) : Int) := (Int.natCast_ediv 9223372036854775807 y).symm
  have q2' : (9223372036854775808 : Int) / (y : Int) = ((9223372036854775808 / y : Nat) : Int) := (Int.natCast_ediv 9223372036854775808 y).symm
  obtain ⟨c1, h1⟩ : ∃ k : Nat, 9223372036854775807 / y = k := ⟨_, rfl⟩
  obtain ⟨c2, h2⟩ : ∃ k : Nat, 9223372036854775808 / y = k := ⟨_, rfl⟩
  rw [h1] at q1 q1' t1; rw [h2] at q2 q2' t2
  have b1 : c1 < 18446744073709551616 := by rw [← h1]; exact Nat.lt_of_le_of_lt (Nat.div_le_self _ _) (by decide)
  have b2 : c2 < 18446744073709551616 := by rw [← h2]; exact Nat.lt_of_le_of_lt (Nat.div_le_self _ _) (by decide)
  have w1 : IntKind.u64.wrap (c1 : Int) = (c1 : Int) := wrapIn b1
  have w2 : IntKind.u64.wrap (c2 : Int) = (c2 : Int) := wrapIn b2
  clear h1 h2 top quo sa sn hp hx hy b1 b2
  rw [hz]
  clear hz
  have hfit : fits z = true ∨ fits z = false := by cases fits z <;> simp
  by_cases sg : (a < 0 ↔ n < 0)
  · skip
    have hv := hs sg
    have sgn : (decide (a < 0) != decide (n < 0)) = false := by rw [bne_eq_false_iff_eq, decide_eq_decide]; exact sg
    have sgn' : (!(decide (a < 0) == decide (n < 0))) = false := sgn
    have SG := Lib.hid sg
    clear sg
    rcases hfit with f | f
    · have f2 := fits_iff.1 f
      have g : ¬ ((c1 : Int) < (x : Int)) := by omega
      have g' : ¬ c1 < x := by omega
      have e1 : IntKind.i64.wrap (a * n) = z := by rw [HZ.out, IntKind.wrap_i64]; omega
      rw [clip_yes f, f]
      clear hv hs hu t1 t2 f2 f
      go_enter Try.func39, Try.ntmps39
      go_wp2_with fail
      refine (SA.out _).mono ?_
      rintro e v1 ⟨rfl, rfl⟩
      go_wp2_with fail
      refine (SN.out _).mono ?_
      rintro e v2 ⟨rfl, rfl⟩
      go_wp2
      exact bodyPost_ret (v := .agg #[.int .i64 z, .bool true]) (by simp [results, Try.results39, go_sem]) rfl ⟨rfl, (by (repeat (first | with_reducible assumption | with_reducible exact Kp.refl _ | with_reducible refine Kp.drew ?_ | with_reducible refine Kp.drewN ?_ _ | with_reducible refine Kp.alloc ?_ _ | ((with_reducible refine Kp.setCell ?_ ?_ _); rotate_left; (focus (first | omega | (simp; done) | (simp; omega)))) | with_reducible refine Kp.trans ?_ (by assumption))))⟩
    · have f2 : ¬ (-9223372036854775808 ≤ z ∧ z ≤ 9223372036854775807) := fun h => by rw [fits_iff.2 h] at f; cases f
      have g : ((c1 : Int) < (x : Int)) := by omega
      have g' : c1 < x := by omega
      rw [clip_no f, f]
      clear hv hs hu t1 t2 f2 f
      go_enter Try.func39, Try.ntmps39
      go_wp2_with fail
      refine (SA.out _).mono ?_
      rintro e v1 ⟨rfl, rfl⟩
      go_wp2_with fail
      refine (SN.out _).mono ?_
      rintro e v2 ⟨rfl, rfl⟩
      go_wp2
      exact bodyPost_ret (v := .agg #[.int .i64 0, .bool false]) (by simp [results, Try.results39, go_sem]) rfl ⟨rfl, (by (repeat (first | with_reducible assumption | with_reducible exact Kp.refl _ | with_reducible refine Kp.drew ?_ | with_reducible refine Kp.drewN ?_ _ | with_reducible refine Kp.alloc ?_ _ | ((with_reducible refine Kp.setCell ?_ ?_ _); rotate_left; (focus (first | omega | (simp; done) | (simp; omega)))) | with_reducible refine Kp.trans ?_ (by assumption))))⟩
  · skip
    have hv := hu sg
    have sgn : (decide (a < 0) != decide (n < 0)) = true := by rw [bne_iff_ne]; intro h; rw [decide_eq_decide] at h; exact sg h
    have sgn' : (!(decide (a < 0) == decide (n < 0))) = true := sgn
    have SG := Lib.hid sg
    clear sg
    rcases hfit with f | f
    · have f2 := fits_iff.1 f
      have g : ¬ ((c2 : Int) < (x : Int)) := by omega
      have g' : ¬ c2 < x := by omega
      have e1 : IntKind.i64.wrap (a * n) = z := by rw [HZ.out, IntKind.wrap_i64]; omega
      rw [clip_yes f, f]
      clear hv hs hu t1 t2 f2 f
      go_enter Try.func39, Try.ntmps39
      go_wp2_with fail
      refine (SA.out _).mono ?_
      rintro e v1 ⟨rfl, rfl⟩
      go_wp2_with fail
      refine (SN.out _).mono ?_
      rintro e v2 ⟨rfl, rfl⟩
      go_wp2
      exact bodyPost_ret (v := .agg #[.int .i64 z, .bool true]) (by simp [results, Try.results39, go_sem]) rfl ⟨rfl, (by (repeat (first | with_reducible assumption | with_reducible exact Kp.refl _ | with_reducible refine Kp.drew ?_ | with_reducible refine Kp.drewN ?_ _ | with_reducible refine Kp.alloc ?_ _ | ((with_reducible refine Kp.setCell ?_ ?_ _); rotate_left; (focus (first | omega | (simp; done) | (simp; omega)))) | with_reducible refine Kp.trans ?_ (by assumption))))⟩
    · have f2 : ¬ (-9223372036854775808 ≤ z ∧ z ≤ 9223372036854775807) := fun h => by rw [fits_iff.2 h] at f; cases f
      have g : ((c2 : Int) < (x : Int)) := by omega
      have g' : c2 < x := by omega
      rw [clip_no f, f]
      clear hv hs hu t1 t2 f2 f
      go_enter Try.func39, Try.ntmps39
      go_wp2_with fail
      refine (SA.out _).mono ?_
      rintro e v1 ⟨rfl, rfl⟩
      go_wp2_with fail
      refine (SN.out _).mono ?_
      rintro e v2 ⟨rfl, rfl⟩
      go_wp2
      exact bodyPost_ret (v := .agg #[.int .i64 0, .bool false]) (by simp [results, Try.results39, go_sem]) rfl ⟨rfl, (by (repeat (first | with_reducible assumption | with_reducible exact Kp.refl _ | with_reducible refine Kp.drew ?_ | with_reducible refine Kp.drewN ?_ _ | with_reducible refine Kp.alloc ?_ _ | ((with_reducible refine Kp.setCell ?_ ?_ _); rotate_left; (focus (first | omega | (simp; done) | (simp; omega)))) | with_reducible refine Kp.trans ?_ (by assumption))))⟩

theorem tmod_cases {a s : Int} (hs : 1 ≤ s) : (0 ≤ a.tmod s ∧ a.tmod s = a % s) ∨ (a.tmod s < 0 ∧ a.tmod s + s = a % s ∧ 0 < a % s) := by
  have h0 := Int.emod_nonneg a (by omega : s ≠ 0)
  have h1 := Int.emod_lt_of_pos a (by omega : 0 < s)
  rw [Int.tmod_eq_emod]
  split
  · left; omega
  · rename_i hd
    right
    have h2 : (s.natAbs : Int) = s := Int.natAbs_of_nonneg (by omega)
    have h3 : a % s ≠ 0 := fun e => hd (.inr (Int.dvd_of_emod_eq_zero e))
    omega
theorem above_any (a s : Int) (w : World) (hs : I64 s) (h1 : 1 ≤ s) :
    Calls Try.prog 74 #[.int .i64 a, .int .i64 s] w fun e w' => e = .returned (.int .i64 (a % s)) ∧ w = w' := by
  have h0 := Int.emod_nonneg a (by omega : s ≠ 0)
  have hl := Int.emod_lt_of_pos a (by omega : 0 < s)
  have hc := tmod_cases (a := a) h1
  obtain ⟨t, ht⟩ : ∃ t, a.tmod s = t := ⟨_, rfl⟩
  obtain ⟨r, hr⟩ : ∃ r, a % s = r := ⟨_, rfl⟩
  rw [ht, hr] at hc
  rw [hr] at h0 hl ⊢
  have hsn : ¬ s = 0 := by omega
  have hsz : (s == 0) = false := by rw [beq_eq_false_iff_ne]; exact hsn
  have hb := hs.2
  clear hr
  rcases hc with ⟨c1, c2⟩ | ⟨c1, c2, c4⟩
  · have c3 : ¬ t < 0 := by omega
    subst c2
    clear hs
    go_enter Try.func74, Try.ntmps74
    go_wp2
    go_ret
    exact ⟨rfl, rfl⟩
  · have e : IntKind.i64.wrap (t + s) = r := by rw [c2, IntKind.wrap_i64]; omega
    clear hs c2
    go_enter Try.func74, Try.ntmps74
    go_wp2
    go_ret
    exact ⟨ret_int (by first | rfl | omega), rfl⟩

/-- The next multiple above, below; none: there is none. -/
def upTo (a s : Int) : Option Int := if s < 1 then none else if a % s = 0 then some a else if fits (a + (s - a % s)) = true then some (a + (s - a % s)) else none
def downTo (a s : Int) : Option Int := if s < 1 then none else if fits (a - a % s) = true then some (a - a % s) else none
theorem opt_fits (x : Int) : (if fits x = true then some x else none).getD 0 = clip x ∧ (if fits x = true then some x else none).isSome = fits x := by
  unfold clip
  by_cases f : fits x = true
  · rw [if_pos f, if_pos f, f]; exact ⟨rfl, rfl⟩
  · rw [if_neg f, if_neg f, Bool.eq_false_iff.2 f]; exact ⟨rfl, rfl⟩

theorem spUp_any (a s : Int) (w : World) (ha : I64 a) (hs : I64 s) :
    Calls Try.prog 27 #[.int .i64 a, .int .i64 s] w fun e w' => e = .returned (.tuple #[.int .i64 ((upTo a s).getD 0), .bool (upTo a s).isSome]) ∧ w = w' := by
  by_cases h : s < 1
  · have e : upTo a s = none := by unfold upTo; rw [if_pos h]
    rw [e]
    clear ha hs
    go_enter Try.func27, Try.ntmps27
    go_wp2
    go_ret2
    exact ⟨rfl, rfl⟩
  · have h0 := Int.emod_nonneg a (by omega : s ≠ 0)
    have hl := Int.emod_lt_of_pos a (by omega : 0 < s)
    have ab := fun w => above_any a s w hs (by omega)
    obtain ⟨r, hr⟩ : ∃ r, a % s = r := ⟨_, rfl⟩
    unfold upTo
    rw [if_neg h]
    rw [hr] at h0 hl ab ⊢
    have AB := Lib.hid ab
    clear ab hr
    by_cases hz : r = 0
    · rw [if_pos hz]
      subst hz
      go_enter Try.func27, Try.ntmps27
      go_wp2_with fail
      refine (AB.out _).mono ?_
      rintro e v1 ⟨rfl, rfl⟩
      go_wp2
      go_ret2
      exact ⟨rfl, rfl⟩
    · rw [if_neg hz]
      have hr0 : 0 < r := by omega
      have hsb := hs.2
      have ad := fun w => spAdd_any a (s - r) w ha.1 ha.2 (by omega) (by omega)
      rw [(opt_fits (a + (s - r))).1, (opt_fits (a + (s - r))).2]
      obtain ⟨d, hd⟩ : ∃ d, s - r = d := ⟨_, rfl⟩
      rw [hd] at ad ⊢
      obtain ⟨u, hu⟩ : ∃ u, clip (a + d) = u := ⟨_, rfl⟩
      obtain ⟨v, hv⟩ : ∃ v, fits (a + d) = v := ⟨_, rfl⟩
      rw [hu, hv] at ad ⊢
      clear hu hv
      have e1 : IntKind.i64.wrap (s - r) = d := by rw [hd, IntKind.wrap_i64]; omega
      have e2 : s - r = d := hd
      have AD := Lib.hid ad
      clear ad ha hs hz
      go_enter Try.func27, Try.ntmps27
      go_wp2_with fail
      refine (AB.out _).mono ?_
      rintro e v1 ⟨rfl, rfl⟩
      go_wp2_with fail
      refine (AD.out _).mono ?_
      rintro e v2 ⟨rfl, rfl⟩
      go_wp2
      go_ret2
      exact ⟨rfl, rfl⟩

theorem spDown_any (a s : Int) (w : World) (ha : I64 a) (hs : I64 s) :
    Calls Try.prog 28 #[.int .i64 a, .int .i64 s] w fun e w' => e = .returned (.tuple #[.int .i64 ((downTo a s).getD 0), .bool (downTo a s).isSome]) ∧ w = w' := by
  by_cases h : s < 1
  · have e : downTo a s = none := by unfold downTo; rw [if_pos h]
    rw [e]
    clear ha hs
    go_enter Try.func28, Try.ntmps28
    go_wp2
    go_ret2
    exact ⟨rfl, rfl⟩
  · have h0 := Int.emod_nonneg a (by omega : s ≠ 0)
    have hl := Int.emod_lt_of_pos a (by omega : 0 < s)
    have ab := fun w => above_any a s w hs (by omega)
    obtain ⟨r, hr⟩ : ∃ r, a % s = r := ⟨_, rfl⟩
    unfold downTo
    rw [if_neg h]
    rw [hr] at h0 hl ab ⊢
    have hsb := hs.2
    have ad := fun w => spSub_any a r w ha.1 ha.2 (by omega) (by omega)
    rw [(opt_fits (a - r)).1, (opt_fits (a - r)).2]
    have AB := Lib.hid ab; have AD := Lib.hid ad
    clear ab hr ad ha hs
    go_enter Try.func28, Try.ntmps28
    go_wp2_with fail
    refine (AB.out _).mono ?_
    rintro e v1 ⟨rfl, rfl⟩
    go_wp2_with fail
    refine (AD.out _).mono ?_
    rintro e v2 ⟨rfl, rfl⟩
    go_wp2
    go_ret2
    exact ⟨rfl, rfl⟩
theorem spNeg_any (a : Int) (w : World) (ha : I64 a) :
    Calls Try.prog 37 #[.int .i64 a] w fun e w' => e = .returned (.tuple #[.int .i64 (clip (0 - a)), .bool (fits (0 - a))]) ∧ w = w' := by
  have ad := fun w => spSub_any 0 a w (by omega) (by omega) ha.1 ha.2
  obtain ⟨u, hu⟩ : ∃ u, clip (0 - a) = u := ⟨_, rfl⟩
  obtain ⟨v, hv⟩ : ∃ v, fits (0 - a) = v := ⟨_, rfl⟩
  rw [hu, hv] at ad ⊢
  have AD := Lib.hid ad; clear ad hu hv
  go_enter Try.func37, Try.ntmps37
  go_wp2_with fail
  refine (AD.out _).mono ?_
  rintro e v2 ⟨rfl, rfl⟩
  go_wp2
  go_ret2
  exact ⟨rfl, rfl⟩

set_option maxHeartbeats 1000000 in
theorem refUp_any (a s : Int) (w : World) (ha : I64 a) (hs : I64 s) :
    Calls Try.prog 40 #[.int .i64 a, .int .i64 s] w fun e w' => e = .returned (.agg #[.int .i64 ((upTo a s).getD 0), .bool (upTo a s).isSome]) ∧ Kp w w' := by
  by_cases h : s < 1
  · have e : upTo a s = none := by unfold upTo; rw [if_pos h]
    rw [e]
    clear ha hs
    go_enter Try.func40, Try.ntmps40
    go_wp2
    exact bodyPost_ret (v := .agg #[.int .i64 0, .bool false]) (by simp [results, Try.results40, go_sem]) rfl ⟨rfl, (by (repeat (first | with_reducible assumption | with_reducible exact Kp.refl _ | with_reducible refine Kp.drew ?_ | with_reducible refine Kp.drewN ?_ _ | with_reducible refine Kp.alloc ?_ _ | ((with_reducible refine Kp.setCell ?_ ?_ _); rotate_left; (focus (first | omega | (simp; done) | (simp; omega)))) | with_reducible refine Kp.trans ?_ (by assumption))))⟩
  · have h0 := Int.emod_nonneg a (by omega : s ≠ 0)
    have hl := Int.emod_lt_of_pos a (by omega : 0 < s)
    have hc := tmod_cases (a := a) (by omega : 1 ≤ s)
    obtain ⟨t, ht⟩ : ∃ t, a.tmod s = t := ⟨_, rfl⟩
    obtain ⟨r, hr⟩ : ∃ r, a % s = r := ⟨_, rfl⟩
    unfold upTo
    rw [if_neg h]
    rw [ht, hr] at hc
    rw [hr] at h0 hl ⊢
    have hsn : ¬ s = 0 := by omega
    have hsz : (s == 0) = false := by rw [beq_eq_false_iff_ne]; exact hsn
    have hsb := hs.2
    clear hr
    by_cases hz : r = 0
    · rw [if_pos hz]
      subst hz
      obtain rfl : t = 0 := by omega
      clear hc ha hs
      go_enter Try.func40, Try.ntmps40
      go_wp2
      exact bodyPost_ret (v := .agg #[.int .i64 a, .bool true]) (by simp [results, Try.results40, go_sem]) rfl ⟨rfl, (by (repeat (first | with_reducible assumption | with_reducible exact Kp.refl _ | with_reducible refine Kp.drew ?_ | with_reducible refine Kp.drewN ?_ _ | with_reducible refine Kp.alloc ?_ _ | ((with_reducible refine Kp.setCell ?_ ?_ _); rotate_left; (focus (first | omega | (simp; done) | (simp; omega)))) | with_reducible refine Kp.trans ?_ (by assumption))))⟩
    · rw [if_neg hz]
      have hzz : (r == 0) = false := by rw [beq_eq_false_iff_ne]; exact hz
      have ad := fun w => refAdd_any a (s - r) w ha.1 ha.2 (by omega) (by omega)
      rw [(opt_fits (a + (s - r))).1, (opt_fits (a + (s - r))).2]
      obtain ⟨d, hd⟩ : ∃ d, s - r = d := ⟨_, rfl⟩
      rw [hd] at ad ⊢
      obtain ⟨u, hu⟩ : ∃ u, clip (a + d) = u := ⟨_, rfl⟩
      obtain ⟨v, hv⟩ : ∃ v, fits (a + d) = v := ⟨_, rfl⟩
      rw [hu, hv] at ad ⊢
      have e1 : IntKind.i64.wrap (s - r) = d := by rw [hd, IntKind.wrap_i64]; omega
      have e2 : s - r = d := hd
      have AD := Lib.hid ad
      clear hu hv ad
      rcases hc with ⟨c1, c2⟩ | ⟨c1, c2, c4⟩
      · have c3 : ¬ t < 0 := by omega
        subst c2
        clear ha hs
        go_enter Try.func40, Try.ntmps40
        go_wp2_with fail
        refine (AD.out _).mono ?_
        rintro e v2 ⟨rfl, rfl⟩
        go_wp2
        exact bodyPost_ret (v := .agg #[.int .i64 u, .bool v]) (by simp [results, Try.results40, go_sem]) rfl ⟨rfl, (by (repeat (first | with_reducible assumption | with_reducible exact Kp.refl _ | with_reducible refine Kp.drew ?_ | with_reducible refine Kp.drewN ?_ _ | with_reducible refine Kp.alloc ?_ _ | ((with_reducible refine Kp.setCell ?_ ?_ _); rotate_left; (focus (first | omega | (simp; done) | (simp; omega)))) | with_reducible refine Kp.trans ?_ (by assumption))))⟩
      · have e3 : IntKind.i64.wrap (t + s) = r := by rw [c2, IntKind.wrap_i64]; omega
        clear ha hs
        go_enter Try.func40, Try.ntmps40
        go_wp2_with fail
        refine (AD.out _).mono ?_
        rintro e v2 ⟨rfl, rfl⟩
        go_wp2
        exact bodyPost_ret (v := .agg #[.int .i64 u, .bool v]) (by simp [results, Try.results40, go_sem]) rfl ⟨rfl, (by (repeat (first | with_reducible assumption | with_reducible exact Kp.refl _ | with_reducible refine Kp.drew ?_ | with_reducible refine Kp.drewN ?_ _ | with_reducible refine Kp.alloc ?_ _ | ((with_reducible refine Kp.setCell ?_ ?_ _); rotate_left; (focus (first | omega | (simp; done) | (simp; omega)))) | with_reducible refine Kp.trans ?_ (by assumption))))⟩

set_option maxHeartbeats 1000000 in
theorem refDown_any (a s : Int) (w : World) (ha : I64 a) (hs : I64 s) :
    Calls Try.prog 41 #[.int .i64 a, .int .i64 s] w fun e w' => e = .returned (.agg #[.int .i64 ((downTo a s).getD 0), .bool (downTo a s).isSome]) ∧ Kp w w' := by
  by_cases h : s < 1
  · have e : downTo a s = none := by unfold downTo; rw [if_pos h]
    rw [e]
    clear ha hs
    go_enter Try.func41, Try.ntmps41
    go_wp2
    exact bodyPost_ret (v := .agg #[.int .i64 0, .bool false]) (by simp [results, Try.results41, go_sem]) rfl ⟨rfl, (by (repeat (first | with_reducible assumption | with_reducible exact Kp.refl _ | with_reducible refine Kp.drew ?_ | with_reducible refine Kp.drewN ?_ _ | with_reducible refine Kp.alloc ?_ _ | ((with_reducible refine Kp.setCell ?_ ?_ _); rotate_left; (focus (first | omega | (simp; done) | (simp; omega)))) | with_reducible refine Kp.trans ?_ (by assumption))))⟩
  · have h0 := Int.emod_nonneg a (by omega : s ≠ 0)
    have hl := Int.emod_lt_of_pos a (by omega : 0 < s)
    have hc := tmod_cases (a := a) (by omega : 1 ≤ s)
    obtain ⟨t, ht⟩ : ∃ t, a.tmod s = t := ⟨_, rfl⟩
    obtain ⟨r, hr⟩ : ∃ r, a % s = r := ⟨_, rfl⟩
    unfold downTo
    rw [if_neg h]
    rw [ht, hr] at hc
    rw [hr] at h0 hl ⊢
    have hsn : ¬ s = 0 := by omega
    have hsz : (s == 0) = false := by rw [beq_eq_false_iff_ne]; exact hsn
    have hsb := hs.2
    have ad := fun w => refSub_any a r w ha.1 ha.2 (by omega) (by omega)
    rw [(opt_fits (a - r)).1, (opt_fits (a - r)).2]
    obtain ⟨u, hu⟩ : ∃ u, clip (a - r) = u := ⟨_, rfl⟩
    obtain ⟨v, hv⟩ : ∃ v, fits (a - r) = v := ⟨_, rfl⟩
    rw [hu, hv] at ad ⊢
    have AD := Lib.hid ad
    clear hr hu hv ad
    rcases hc with ⟨c1, c2⟩ | ⟨c1, c2, c4⟩
    · have c3 : ¬ t < 0 := by omega
      subst c2
      clear ha hs
      go_enter Try.func41, Try.ntmps41
      go_wp2_with fail
      refine (AD.out _).mono ?_
      rintro e v2 ⟨rfl, rfl⟩
      go_wp2
      exact bodyPost_ret (v := .agg #[.int .i64 u, .bool v]) (by simp [results, Try.results41, go_sem]) rfl ⟨rfl, (by (repeat (first | with_reducible assumption | with_reducible exact Kp.refl _ | with_reducible refine Kp.drew ?_ | with_reducible refine Kp.drewN ?_ _ | with_reducible refine Kp.alloc ?_ _ | ((with_reducible refine Kp.setCell ?_ ?_ _); rotate_left; (focus (first | omega | (simp; done) | (simp; omega)))) | with_reducible refine Kp.trans ?_ (by assumption))))⟩
    · have e3 : IntKind.i64.wrap (t + s) = r := by rw [c2, IntKind.wrap_i64]; omega
      clear ha hs
      go_enter Try.func41, Try.ntmps41
      go_wp2_with fail
      refine (AD.out _).mono ?_
      rintro e v2 ⟨rfl, rfl⟩
      go_wp2
      exact bodyPost_ret (v := .agg #[.int .i64 u, .bool v]) (by simp [results, Try.results41, go_sem]) rfl ⟨rfl, (by (repeat (first | with_reducible assumption | with_reducible exact Kp.refl _ | with_reducible refine Kp.drew ?_ | with_reducible refine Kp.drewN ?_ _ | with_reducible refine Kp.alloc ?_ _ | ((with_reducible refine Kp.setCell ?_ ?_ _); rotate_left; (focus (first | omega | (simp; done) | (simp; omega)))) | with_reducible refine Kp.trans ?_ (by assumption))))⟩
end Go.Proofs.Ytepckgcbncdibaa
