/- The ratio and the comparison of the document: the walks. -/
import Derived.Test.YteipfamaclildaaBits5

import Derived.Test.YteipfamaclildaaWideLaws

namespace Go.Proofs.Yteipfamaclildaa

open Go.RowKit

theorem field77 (f : Nat → Bool) (r : Int) (ok : Bool) (w : World) : (Instr.field 98 (.agg (parC f r ok).toArray) 0).run Try.prog w = .ok (.agg (bitsF f).toArray) w := by
  have h2 := Try.isAgg96
  simp [Instr.field, go_sem, h2, part, asAgg]
  exact take_num f _
theorem ratio_nat (a b c : Nat) (hc : 0 < c) : ratio a b c = if a * b / c ≤ 9223372036854775807 then some ((a * b / c : Nat) : Int) else none := by
  unfold ratio
  rw [if_neg (by omega)]
  have e : (a : Int) * b / c = ((a * b / c : Nat) : Int) := by push_cast; rfl
  rw [e]
  split
  · rw [if_pos (by omega)]
  · rw [if_neg (by omega)]

set_option maxRecDepth 100000 in
set_option maxHeartbeats 4000000 in
theorem refRatio_nat (a b c : Nat) (ha : a ≤ 9223372036854775807) (hb : b ≤ 9223372036854775807) (hc0 : 0 < c) (hc : c ≤ 9223372036854775807) (w : World) :
    Calls Try.prog 27 #[.int .i64 a, .int .i64 b, .int .i64 c] w fun e w' => e = .returned (.agg #[.int .i64 ((ratio a b c).getD 0), .bool (ratio a b c).isSome]) ∧ Kp w w' := by
  have hM := refMul_any a b (by omega) (by omega)
  have hab : a * b ≤ 9223372036854775807 * 9223372036854775807 := Nat.mul_le_mul ha hb
  have hD := refDiv_any (a * b) c (by omega) hc0 (by omega)
  have hq : a * b / c < 2 ^ 128 := Nat.lt_of_le_of_lt (Nat.div_le_self _ _) (by omega)
  have hW := refWords_any (a * b / c) hq
  have hr := ratio_nat a b c hc0
  obtain ⟨q, eq⟩ : ∃ q, a * b / c = q := ⟨_, rfl⟩
  rw [eq] at hD hW hr hq
  obtain ⟨rv, erv⟩ : ∃ rv, ratio a b c = rv := ⟨_, rfl⟩
  rw [erv] at hr ⊢
  obtain ⟨hi, ehi⟩ : ∃ hi, q / 2 ^ 64 = hi := ⟨_, rfl⟩
  obtain ⟨lo, elo⟩ : ∃ lo, q % 2 ^ 64 = lo := ⟨_, rfl⟩
  rw [ehi, elo] at hW
  have hlo : lo < 18446744073709551616 := by rw [← elo]; exact Nat.mod_lt _ (by decide)
  have HR : Hid ((rv.getD 0, rv.isSome) = if hi = 0 ∧ lo ≤ 9223372036854775807 then ((lo : Int), true) else (0, false)) := by
    refine Lib.hid ?_
    rw [hr]
    have e := Nat.div_add_mod q (2 ^ 64)
    rw [ehi, elo] at e
    by_cases h : q ≤ 9223372036854775807
    · have h1 : hi = 0 := by omega
      have h2 : lo = q := by rw [h1] at e; omega
      rw [if_pos h, if_pos ⟨h1, by omega⟩, h2]; rfl
    · rw [if_neg h, if_neg (by intro ⟨h1, h2⟩; rw [h1] at e; omega)]; rfl
  have n0 : decide ((a : Int) < 0) = false := decide_eq_false (by omega)
  have n1 : decide ((b : Int) < 0) = false := decide_eq_false (by omega)
  have n2 : decide ((c : Int) < 1) = false := decide_eq_false (by omega)
  clear hab hq hr eq erv ehi elo hc0
  go_enter Try.func27, Try.ntmps27
  go_wp2_with fail
  refine (hM _).mono ?_
  rintro e w1 ⟨rfl, k1⟩
  have xr : Blk w1 w.heap.size [.int .i64 0, .bool false] 55 := Blk.kp (by (repeat (first | with_reducible assumption | ((with_reducible refine Blk.newL ?_ ?_); (focus (first | (simp; done) | omega)); rfl) | with_reducible refine Blk.drew ?_ | with_reducible refine Blk.drewN ?_ _ | with_reducible refine Blk.alloc ?_ _ | ((with_reducible refine Blk.other ?_ ?_ _); rotate_left; (focus (first | with_reducible assumption | omega | (simp; done) | (simp; omega))))))) k1; have xr_0 := xr.cell 0 rfl; have xr_1 := xr.cell 1 rfl; have xr_ne := xr.lt; have xr_n1 := Nat.lt_add_one_of_lt xr_ne; have xr_n2 := Nat.lt_add_one_of_lt xr_n1; have xr_f0 := xr.free 0; have xr_f1 := xr.free 1
  have xk : Kp w w1 := ((by (repeat (first | with_reducible assumption | with_reducible exact Kp.refl _ | with_reducible refine Kp.drew ?_ | with_reducible refine Kp.drewN ?_ _ | with_reducible refine Kp.alloc ?_ _ | ((with_reducible refine Kp.setCell ?_ ?_ _); rotate_left; (focus (first | omega | (simp; done) | (simp; omega)))) | with_reducible refine Kp.trans ?_ (by assumption)))) : Kp w _).trans k1
  clear hM k1
  go_wp2_with fail
  refine (hD _).mono ?_
  rintro e w2 ⟨rfl, k2⟩
  have t_xr : Blk w2 w.heap.size [.int .i64 0, .bool false] 55 := Blk.kp (by (repeat (first | with_reducible assumption | ((with_reducible refine Blk.newL ?_ ?_); (focus (first | (simp; done) | omega)); rfl) | with_reducible refine Blk.drew ?_ | with_reducible refine Blk.drewN ?_ _ | with_reducible refine Blk.alloc ?_ _ | ((with_reducible refine Blk.other ?_ ?_ _); rotate_left; (focus (first | with_reducible assumption | omega | (simp; done) | (simp; omega))))))) k2; clear xr_0 xr_1 xr_ne xr_n1 xr_n2 xr_f0 xr_f1 xr; have xr := t_xr; clear t_xr; have xr_0 := xr.cell 0 rfl; have xr_1 := xr.cell 1 rfl; have xr_ne := xr.lt; have xr_n1 := Nat.lt_add_one_of_lt xr_ne; have xr_n2 := Nat.lt_add_one_of_lt xr_n1; have xr_f0 := xr.free 0; have xr_f1 := xr.free 1
  have yk := xk.trans k2
  clear hD k2 xk
  go_wp2_with (first | (refine fdRow ?gd 98 (.tmp 26) 0 ?ho ?hx (field77 q.testBit ((a * b % c : Nat) : Int) true _) ?_; (case gd => rfl); (case ho => rfl); (case hx => rfl)) | fail)
  refine (hW _).mono ?_
  rintro e w3 ⟨rfl, k3⟩
  have t_xr : Blk w3 w.heap.size [.int .i64 0, .bool false] 55 := Blk.kp (by (repeat (first | with_reducible assumption | ((with_reducible refine Blk.newL ?_ ?_); (focus (first | (simp; done) | omega)); rfl) | with_reducible refine Blk.drew ?_ | with_reducible refine Blk.drewN ?_ _ | with_reducible refine Blk.alloc ?_ _ | ((with_reducible refine Blk.other ?_ ?_ _); rotate_left; (focus (first | with_reducible assumption | omega | (simp; done) | (simp; omega))))))) k3; clear xr_0 xr_1 xr_ne xr_n1 xr_n2 xr_f0 xr_f1 xr; have xr := t_xr; clear t_xr; have xr_0 := xr.cell 0 rfl; have xr_1 := xr.cell 1 rfl; have xr_ne := xr.lt; have xr_n1 := Nat.lt_add_one_of_lt xr_ne; have xr_n2 := Nat.lt_add_one_of_lt xr_n1; have xr_f0 := xr.free 0; have xr_f1 := xr.free 1
  have xk := yk.trans k3
  clear hW k3 yk
  by_cases h1 : hi = 0
  · subst h1
    by_cases h2 : lo ≤ 9223372036854775807
    · have hv := HR.out
      rw [if_pos ⟨rfl, h2⟩] at hv
      have HE : Hid (Ending.returned (.agg #[.int .i64 lo, .bool true]) = .returned (.agg #[.int .i64 (rv.getD 0), .bool rv.isSome])) := by
        refine Lib.hid ?_
        have e1 : rv.getD 0 = lo := congrArg Prod.fst hv
        have e2 : rv.isSome = true := congrArg Prod.snd hv
        rw [e1, e2]
      clear hv HR
      go_wp2
      refine ret_blk (vs := [.int .i64 lo, .bool true]) (((xr.set 0 _).set 1 _).alloc _) ?hr ?hd ⟨HE.out, (by (repeat (first | with_reducible assumption | with_reducible exact Kp.refl _ | with_reducible refine Kp.drew ?_ | with_reducible refine Kp.drewN ?_ _ | with_reducible refine Kp.alloc ?_ _ | ((with_reducible refine Kp.setCell ?_ ?_ _); rotate_left; (focus (first | omega | (simp; done) | (simp; omega)))) | with_reducible refine Kp.trans ?_ (by assumption))))⟩; (case hd => rfl); (case hr => intro wz bz; have z0 := bz.cell 0 rfl; have z1 := bz.cell 1 rfl; simp [results, Try.results27, go_sem, z0, z1])
    · have hv := HR.out
      rw [if_neg (fun h => h2 h.2)] at hv
      have HE : Hid (Ending.returned (.agg #[.int .i64 0, .bool false]) = .returned (.agg #[.int .i64 (rv.getD 0), .bool rv.isSome])) := by
        refine Lib.hid ?_
        have e1 : rv.getD 0 = 0 := congrArg Prod.fst hv
        have e2 : rv.isSome = false := congrArg Prod.snd hv
        rw [e1, e2]
      clear hv HR
      go_wp2
      refine ret_blk (vs := [.int .i64 0, .bool false]) (((xr.set 0 _).set 1 _).alloc _) ?hr ?hd ⟨HE.out, (by (repeat (first | with_reducible assumption | with_reducible exact Kp.refl _ | with_reducible refine Kp.drew ?_ | with_reducible refine Kp.drewN ?_ _ | with_reducible refine Kp.alloc ?_ _ | ((with_reducible refine Kp.setCell ?_ ?_ _); rotate_left; (focus (first | omega | (simp; done) | (simp; omega)))) | with_reducible refine Kp.trans ?_ (by assumption))))⟩; (case hd => rfl); (case hr => intro wz bz; have z0 := bz.cell 0 rfl; have z1 := bz.cell 1 rfl; simp [results, Try.results27, go_sem, z0, z1])
  · have hv := HR.out
    rw [if_neg (fun h => h1 h.1)] at hv
    have HE : Hid (Ending.returned (.agg #[.int .i64 0, .bool false]) = .returned (.agg #[.int .i64 (rv.getD 0), .bool rv.isSome])) := by
      refine Lib.hid ?_
      have e1 : rv.getD 0 = 0 := congrArg Prod.fst hv
      have e2 : rv.isSome = false := congrArg Prod.snd hv
      rw [e1, e2]
    have h3 : decide ((hi : Int) > 0) = true := decide_eq_true (by omega)
    have h4 : decide (0 < (hi : Int)) = true := decide_eq_true (by omega)
    clear hv HR
    go_wp2
    refine ret_blk (vs := [.int .i64 0, .bool false]) (((xr.set 0 _).set 1 _).alloc _) ?hr ?hd ⟨HE.out, (by (repeat (first | with_reducible assumption | with_reducible exact Kp.refl _ | with_reducible refine Kp.drew ?_ | with_reducible refine Kp.drewN ?_ _ | with_reducible refine Kp.alloc ?_ _ | ((with_reducible refine Kp.setCell ?_ ?_ _); rotate_left; (focus (first | omega | (simp; done) | (simp; omega)))) | with_reducible refine Kp.trans ?_ (by assumption))))⟩; (case hd => rfl); (case hr => intro wz bz; have z0 := bz.cell 0 rfl; have z1 := bz.cell 1 rfl; simp [results, Try.results27, go_sem, z0, z1])

set_option maxHeartbeats 1000000 in
theorem refRatio_any (a b c : Int) (w : World) (ha : I64 a) (hb : I64 b) (hc : I64 c) :
    Calls Try.prog 27 #[.int .i64 a, .int .i64 b, .int .i64 c] w fun e w' => e = .returned (.agg #[.int .i64 ((ratio a b c).getD 0), .bool (ratio a b c).isSome]) ∧ Kp w w' := by
  by_cases h : a < 0 ∨ b < 0 ∨ c < 1
  · have hn : ratio a b c = none := by unfold ratio; rw [if_pos h]
    rw [hn]
    clear hn
    go_enter Try.func27, Try.ntmps27
    go_wp2
    all_goals
      refine ret_blk (vs := [.int .i64 0, .bool false]) (Blk.new _ _ _) ?hr ?hd ⟨rfl, (by (repeat (first | with_reducible assumption | with_reducible exact Kp.refl _ | with_reducible refine Kp.drew ?_ | with_reducible refine Kp.drewN ?_ _ | with_reducible refine Kp.alloc ?_ _ | ((with_reducible refine Kp.setCell ?_ ?_ _); rotate_left; (focus (first | omega | (simp; done) | (simp; omega)))) | with_reducible refine Kp.trans ?_ (by assumption))))⟩
      case hr =>
        intro wz bz
        have z0 := bz.cell 0 rfl
        have z1 := bz.cell 1 rfl
        simp [results, Try.results27, go_sem, z0, z1]
      case hd => rfl
  · obtain ⟨x, rfl⟩ := Int.eq_ofNat_of_zero_le (show 0 ≤ a by omega)
    obtain ⟨y, rfl⟩ := Int.eq_ofNat_of_zero_le (show 0 ≤ b by omega)
    obtain ⟨z, rfl⟩ := Int.eq_ofNat_of_zero_le (show 0 ≤ c by omega)
    exact refRatio_nat x y z (by have := ha.2; omega) (by have := hb.2; omega) (by omega) (by have := hc.2; omega) w

theorem wrap_pos {x : Int} (h : I64 x) : IntKind.u64.wrap (max 0 x) = ((pos x : Nat) : Int) := by
  have h1 := h.1
  have h2 := h.2
  unfold pos
  rw [IntKind.wrap_u64]
  omega
end Go.Proofs.Yteipfamaclildaa
