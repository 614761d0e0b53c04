/- Numbers of 128 bits: the product. -/
import Derived.Test.YteipfamaclildaaBits3

import Derived.StillTailTactics

namespace Go.Proofs.Yteipfamaclildaa

open Go.RowKit

theorem fdRow {ops : Array Oper} {rest : List Oper} {op : Oper} {a : Act} {w : World} {Q : Exit → Act → World → Prop} (hgd : op.guard = none) (t : TypeId) (x : Operand) (k : Nat) (ho : op.op = .field t x k)
    {v u : Value} (hx : a.eval x = v) (hf : (Instr.field t v k).run Try.prog w = .ok u w) (h : wpList Try.prog ops Q rest (a.put op.dst u) w) : wpList Try.prog ops Q (op :: rest) a w :=
  wpList_plain hgd fun _ hK => by
    unfold Oper.wp execOp
    simp only [ho, hx, Sem.run_bind, hf, Result.andThen_ok, Sem.run_pure]
    exact hK _ _ h
theorem setCells_size {b : Nat} : ∀ (vs : List Value) (o : Nat) (w : World), (w.setCells b o vs).heap.size = w.heap.size
  | [], _, _ => rfl
  | v :: r, o, w => by
    rw [World.setCells, setCells_size r (o + 1)]
    show (w.heap.modify b _).size = _
    simp
theorem st67w {ops : Array Oper} {rest : List Oper} {op : Oper} {a : Act} {w : World} {Q : Exit → Act → World → Prop} (hgd : op.guard = none) (x y : Operand) (ho : op.op = .store 96 x y)
    {b : Nat} {f g : Nat → Bool} {t : TypeId} (hb : Blk w b (bitsF f) t) (hx : a.eval x = .pointer (some ⟨b, 0, none⟩)) (hy : a.eval y = .agg (bitsF g).toArray)
    (h : ∀ w', Blk w' b (bitsF g) t → (∀ {b' : Nat} {cs : List Value} {t' : TypeId}, b' ≠ b → Blk w b' cs t' → Blk w' b' cs t') → (∀ {W : World}, W.heap.size ≤ b → Kp W w → Kp W w') → w'.heap.size = w.heap.size → wpList Try.prog ops Q rest (a.put op.dst undef) w') : wpList Try.prog ops Q (op :: rest) a w :=
  st67 hgd x y ho hb hx hy (h _ hb.num (fun hne k => k.away hne _ _ _) (fun hle k => k.setCells hle _ _) (setCells_size _ _ _))
theorem take_num (f : Nat → Bool) (l : List Value) : List.take 128 (bitsF f ++ l) = bitsF f := by
  rw [List.take_append_of_le_length (by rw [bitsF_length]; exact Nat.le_refl _), List.take_of_length_le (by rw [bitsF_length]; exact Nat.le_refl _)]
theorem field72 (f : Nat → Bool) (ok : Bool) (w : World) : (Instr.field 121 (.agg (sumC f ok).toArray) 0).run Try.prog w = .ok (.agg (bitsF f).toArray) w := by
  have h2 := Try.isAgg96
  simp [Instr.field, go_sem, h2, part, asAgg]
  exact take_num f _
theorem addC_ok {a b : Nat} (h : a + b < 2 ^ 128) : addC a b = sumC (a + b).testBit true := by
  unfold addC
  rw [if_pos]
  unfold carry
  rw [Nat.mod_eq_of_lt (Nat.lt_of_le_of_lt (Nat.le_add_right a b) h), Nat.mod_eq_of_lt (Nat.lt_of_le_of_lt (Nat.le_add_left b a) h)]
  simpa using h
theorem bit_val (a k : Nat) (ha : a < 18446744073709551616) : Go.bits BinOp.and IntKind.u64 ((a : Int) / 2 ^ k) 1 = (nat01 (a.testBit k) : Nat) := by
  have h1 : a / 2 ^ k ≤ a := Nat.div_le_self _ _
  have e : (a : Int) / 2 ^ k = ((a / 2 ^ k : Nat) : Int) := by push_cast; rfl
  rw [nat01_testBit, e]
  generalize a / 2 ^ k = q at h1 ⊢
  rw [and_one_u64 _ (by omega) (by omega)]
  rfl
theorem mul_step (a b k : Nat) : a * (b % 2 ^ (k + 1)) = a * (b % 2 ^ k) + a * 2 ^ k * nat01 (b.testBit k) := by
  rw [mod_step, Nat.mul_add, Nat.add_comm, Nat.mul_assoc]
theorem mul_small {a b : Nat} (ha : a < 18446744073709551616) (hb : b < 18446744073709551616) (k : Nat) : a * (b % 2 ^ k) < 2 ^ 128 := by
  have h : a * (b % 2 ^ k) ≤ a * b := Nat.mul_le_mul_left a (Nat.mod_le b _)
  have h2 : a * b ≤ 18446744073709551615 * 18446744073709551615 := Nat.mul_le_mul (by omega) (by omega)
  omega

set_option maxRecDepth 100000 in
set_option maxHeartbeats 4000000 in
theorem refMul_any (a b : Nat) (ha : a < 18446744073709551616) (hb : b < 18446744073709551616) (w : World) : Calls Try.prog 56 #[.int .u64 a, .int .u64 b] w
    fun e w' => e = .returned (.agg (nmC (a * b)).toArray) ∧ Kp w w' := by
  have hN := refOf_any a ha
  have HA := Lib.hid ha
  have HB := Lib.hid hb
  clear ha hb
  go_enter Try.func56, Try.ntmps56
  go_wp2_with fail
  refine (hN _).mono ?_
  rintro e w1 ⟨rfl, k1⟩
  have xr : Blk w1 w.heap.size (bitsF fun _ => false) 96 := Blk.kp (by rw [zeros67]; exact (by (repeat (first | with_reducible assumption | ((with_reducible refine Blk.newL ?_ ?_); (focus (first | (simp; done) | omega)); rfl) | with_reducible refine Blk.drew ?_ | with_reducible refine Blk.drewN ?_ _ | with_reducible refine Blk.alloc ?_ _ | ((with_reducible refine Blk.other ?_ ?_ _); rotate_left; (focus (first | with_reducible assumption | omega | (simp; done) | (simp; omega)))))))) k1
  have xo : Blk w1 (w.heap.size + 1) (bitsF fun _ => false) 96 := Blk.kp (by rw [zeros67]; exact (by (repeat (first | with_reducible assumption | ((with_reducible refine Blk.newL ?_ ?_); (focus (first | (simp; done) | omega)); rfl) | with_reducible refine Blk.drew ?_ | with_reducible refine Blk.drewN ?_ _ | with_reducible refine Blk.alloc ?_ _ | ((with_reducible refine Blk.other ?_ ?_ _); rotate_left; (focus (first | with_reducible assumption | omega | (simp; done) | (simp; omega)))))))) k1
  have xk : Kp w w1 := ((by (repeat (first | with_reducible assumption | with_reducible exact Kp.refl _ | with_reducible refine Kp.drew ?_ | with_reducible refine Kp.drewN ?_ _ | with_reducible refine Kp.alloc ?_ _ | ((with_reducible refine Kp.setCell ?_ ?_ _); rotate_left; (focus (first | omega | (simp; done) | (simp; omega)))) | with_reducible refine Kp.trans ?_ (by assumption)))) : Kp w _).trans k1
  have n1 := xr.lt
  have n2 := xo.lt
  clear hN
  unfold nmC
  go_wp2_with ((refine st67 (b := ?b20) (t := ?t20) (f := (fun _ => false)) (g := a.testBit) ?gd (.tmp 6) (.tmp 9) ?ho ?hb ?hx ?hy ?_; (case gd => rfl); (case ho => rfl); (case hx => rfl); (case hy => rfl); (case hb => (repeat (first | with_reducible exact Blk.zero67 _ _ | with_reducible exact Blk.numNew _ _ _ | with_reducible refine Blk.num (by assumption) | ((with_reducible refine Blk.numAway ?_ _ _ _ ?_); (focus (first | with_reducible assumption | omega | (simp; done) | (simp; omega)))) | with_reducible assumption | ((with_reducible refine Blk.newL ?_ ?_); (focus (first | (simp; done) | omega)); rfl) | with_reducible refine Blk.drew ?_ | with_reducible refine Blk.drewN ?_ _ | with_reducible refine Blk.alloc ?_ _ | ((with_reducible refine Blk.other ?_ ?_ _); rotate_left; (focus (first | with_reducible assumption | omega | (simp; done) | (simp; omega)))))))))
  go_loopw [7] (fun v7 wr => ∃ k o x : Nat, k ≤ 64 ∧ v7 = .int .i64 k ∧ Blk wr w.heap.size (bitsF fun _ => false) 96 ∧ Blk wr (w.heap.size + 1) (bitsF o.testBit) 96 ∧ Blk wr w1.heap.size (bitsF x.testBit) 96 ∧ Kp w wr ∧ Hid (o = a * (b % 2 ^ k) ∧ x = a * 2 ^ k)) (fun v7 _ => 64 - (intOf v7).toNat)
  case atStart => exact ⟨0, 0, a, by omega, rfl, (by (repeat (first | with_reducible exact Blk.zero67 _ _ | with_reducible exact Blk.numNew _ _ _ | with_reducible refine Blk.num (by assumption) | ((with_reducible refine Blk.numAway ?_ _ _ _ ?_); (focus (first | with_reducible assumption | omega | (simp; done) | (simp; omega)))) | with_reducible assumption | ((with_reducible refine Blk.newL ?_ ?_); (focus (first | (simp; done) | omega)); rfl) | with_reducible refine Blk.drew ?_ | with_reducible refine Blk.drewN ?_ _ | with_reducible refine Blk.alloc ?_ _ | ((with_reducible refine Blk.other ?_ ?_ _); rotate_left; (focus (first | with_reducible assumption | omega | (simp; done) | (simp; omega))))))), by rw [show (0 : Nat).testBit = fun _ => false by funext j; simp]; exact (by (repeat (first | with_reducible exact Blk.zero67 _ _ | with_reducible exact Blk.numNew _ _ _ | with_reducible refine Blk.num (by assumption) | ((with_reducible refine Blk.numAway ?_ _ _ _ ?_); (focus (first | with_reducible assumption | omega | (simp; done) | (simp; omega)))) | with_reducible assumption | ((with_reducible refine Blk.newL ?_ ?_); (focus (first | (simp; done) | omega)); rfl) | with_reducible refine Blk.drew ?_ | with_reducible refine Blk.drewN ?_ _ | with_reducible refine Blk.alloc ?_ _ | ((with_reducible refine Blk.other ?_ ?_ _); rotate_left; (focus (first | with_reducible assumption | omega | (simp; done) | (simp; omega))))))), (by (repeat (first | with_reducible exact Blk.zero67 _ _ | with_reducible exact Blk.numNew _ _ _ | with_reducible refine Blk.num (by assumption) | ((with_reducible refine Blk.numAway ?_ _ _ _ ?_); (focus (first | with_reducible assumption | omega | (simp; done) | (simp; omega)))) | with_reducible assumption | ((with_reducible refine Blk.newL ?_ ?_); (focus (first | (simp; done) | omega)); rfl) | with_reducible refine Blk.drew ?_ | with_reducible refine Blk.drewN ?_ _ | with_reducible refine Blk.alloc ?_ _ | ((with_reducible refine Blk.other ?_ ?_ _); rotate_left; (focus (first | with_reducible assumption | omega | (simp; done) | (simp; omega))))))), (by (repeat (first | with_reducible assumption | with_reducible exact Kp.refl _ | with_reducible refine Kp.drew ?_ | with_reducible refine Kp.drewN ?_ _ | with_reducible refine Kp.alloc ?_ _ | ((with_reducible refine Kp.setCell ?_ ?_ _); rotate_left; (focus (first | omega | (simp; done) | (simp; omega)))) | ((with_reducible refine Kp.setCells ?_ _ _ _ ?_); (focus (first | omega | (simp; done) | (simp; omega)))) | with_reducible refine Kp.trans ?_ (by assumption)))), Lib.hid ⟨by simp [Nat.mod_one], by simp⟩⟩
  case round =>
    clear xr xk xo
    obtain ⟨k, o, x, hk, rfl, xr, xo, xx, xk, hd⟩ := hrel
    by_cases hlt : k < 64
    · have hv := bit_val b k HB.out
      have hst := mul_step a b k
      have hsm := mul_small HA.out HB.out (k + 1)
      have hU := refUp_any x false
      cases hq : b.testBit k with
      | true =>
        rw [hq] at hv hst
        have hA := refAdd_num o x
        have hs : o + x = a * (b % 2 ^ (k + 1)) := by rw [hst, hd.out.1, hd.out.2]; simp [nat01]
        rw [← hs] at hsm
        rw [addC_ok hsm] at hA
        have HS := Lib.hid hs
        clear hs hsm hst hq
        simp only [nat01, if_true] at hv
        go_wp2_with (first | (refine ld67 ?gd (.tmp 5) ?ho xo ?hx ?_; (case gd => rfl); (case ho => rfl); (case hx => rfl)) | (refine ld67 ?gd (.tmp 6) ?ho xx ?hx ?_; (case gd => rfl); (case ho => rfl); (case hx => rfl)) | fail)
        refine (hA _).mono ?_
        rintro e w2 ⟨rfl, k2⟩
        have yr := xr.kp k2
        have yo := xo.kp k2
        have yx := xx.kp k2
        have yk := xk.trans k2
        clear hA xr xo xx xk k2
        go_wp2_with (first | (refine fdRow ?gd 121 (.tmp 21) 0 ?ho ?hx (field72 (o + x).testBit true _) ?_; (case gd => rfl); (case ho => rfl); (case hx => rfl)) | (refine st67w (g := (o + x).testBit) ?gd (.tmp 5) (.tmp 22) ?ho yo ?hx ?hy ?_; (case gd => rfl); (case ho => rfl); (case hx => rfl); (case hy => rfl)) | fail)
        intro w3 zo oth kp sz
        have zr := oth (by omega) yr
        have zx := oth (by omega) yx
        have zk := kp (by omega) yk
        clear yr yo yx yk oth kp
        go_wp2_with (first | (refine ld67 ?gd (.tmp 6) ?ho zx ?hx ?_; (case gd => rfl); (case ho => rfl); (case hx => rfl)) | fail)
        refine (hU _).mono ?_
        rintro e w4 ⟨rfl, k4⟩
        have ar := zr.kp k4
        have ao := zo.kp k4
        have ax := zx.kp k4
        have ak := zk.trans k4
        clear hU zr zo zx zk k4
        unfold nmC
        go_wp2_with (first | (refine st67w (g := (2 * x + nat01 false).testBit) ?gd (.tmp 6) (.tmp 24) ?ho ax ?hx ?hy ?_; (case gd => rfl); (case ho => rfl); (case hx => rfl); (case hy => rfl)) | fail)
        intro w5 cx oth kp sz5
        have cr := oth (by omega) ar
        have co := oth (by omega) ao
        have ck := kp (by omega) ak
        clear ar ao ak oth kp
        go_wp2
        go_roundw
        case rel => exact ⟨k + 1, o + x, 2 * x + nat01 false, by omega, by go_num, cr, co, cx, ck, Lib.hid ⟨HS.out, by rw [hd.out.2, Nat.pow_succ]; simp only [nat01, Bool.false_eq_true, if_false]; rw [Nat.add_zero, Nat.mul_comm 2, Nat.mul_assoc]⟩⟩
        case measure => simp [intOf]; omega
      | false =>
        rw [hq] at hv hst
        have HS : Hid (o = a * (b % 2 ^ (k + 1))) := Lib.hid (by rw [hst, hd.out.1]; simp [nat01])
        clear hsm hst hq
        simp only [nat01, Bool.false_eq_true, if_false] at hv
        go_wp2_with (first | (refine ld67 ?gd (.tmp 6) ?ho xx ?hx ?_; (case gd => rfl); (case ho => rfl); (case hx => rfl)) | fail)
        have zr := xr
        have zo := xo
        have zx := xx
        have zk := xk
        clear xr xo xx xk
        refine (hU _).mono ?_
        rintro e w4 ⟨rfl, k4⟩
        have ar := zr.kp k4
        have ao := zo.kp k4
        have ax := zx.kp k4
        have ak := zk.trans k4
        clear hU zr zo zx zk k4
        unfold nmC
        go_wp2_with (first | (refine st67w (g := (2 * x + nat01 false).testBit) ?gd (.tmp 6) (.tmp 24) ?ho ax ?hx ?hy ?_; (case gd => rfl); (case ho => rfl); (case hx => rfl); (case hy => rfl)) | fail)
        intro w5 cx oth kp sz5
        have cr := oth (by omega) ar
        have co := oth (by omega) ao
        have ck := kp (by omega) ak
        clear ar ao ak oth kp
        go_wp2
        go_roundw
        case rel => exact ⟨k + 1, o, 2 * x + nat01 false, by omega, by go_num, cr, co, cx, ck, Lib.hid ⟨HS.out, by rw [hd.out.2, Nat.pow_succ]; simp only [nat01, Bool.false_eq_true, if_false]; rw [Nat.add_zero, Nat.mul_comm 2, Nat.mul_assoc]⟩⟩
        case measure => simp [intOf]; omega
    · obtain rfl : k = 64 := by omega
      have hv : a * b = o := by
        rw [hd.out.1, Nat.mod_eq_of_lt HB.out]
      go_wp2_with ((refine ld67 ?gd (.tmp 5) ?ho xo ?hx ?_; (case gd => rfl); (case ho => rfl); (case hx => rfl)); (refine st67 (g := o.testBit) ?gd (.tmp 4) (.tmp 25) ?ho xr ?hx ?hy ?_; (case gd => rfl); (case ho => rfl); (case hx => rfl); (case hy => rfl)); refine Hid.out ?_)
      refine Lib.hid (end_ret (by assumption) ?_)
      refine ret_blk (Blk.num xr) ?hr ?hd ?_; (case hr => intro wz bz; exact ret_cell67 Try.results56 rfl bz); (case hd => rfl)
      exact ⟨by rw [hv]; rfl, (by (repeat (first | with_reducible assumption | with_reducible exact Kp.refl _ | with_reducible refine Kp.drew ?_ | with_reducible refine Kp.drewN ?_ _ | with_reducible refine Kp.alloc ?_ _ | ((with_reducible refine Kp.setCell ?_ ?_ _); rotate_left; (focus (first | omega | (simp; done) | (simp; omega)))) | ((with_reducible refine Kp.setCells ?_ _ _ _ ?_); (focus (first | omega | (simp; done) | (simp; omega)))) | with_reducible refine Kp.trans ?_ (by assumption))))⟩
end Go.Proofs.Yteipfamaclildaa
