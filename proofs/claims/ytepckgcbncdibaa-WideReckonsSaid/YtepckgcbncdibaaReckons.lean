/- The law WideReckons: a number held against the document's. -/
import Derived.Test.YtepckgcbncdibaaBits6
import Derived.Test.YtepckgcbncdibaaTypesB
import Derived.Laws.StructEq
namespace Go.Proofs.Ytepckgcbncdibaa
open Go.RowKit

theorem exLd67r {o : Oper} {a : Act} {w : World} (x : Operand) (ho : o.op = .load 67 x) {b : Nat} {f : Nat → Bool} (hb : w.rangeAt b 0 (bitsF f)) (hx : a.eval x = .pointer (some ⟨b, 0, none⟩)) :
    (execOp a.eval o).run Try.prog w = .ok (.value (.agg (bitsF f).toArray)) w := by
  have h := run_loadVar_mid (P := Try.prog) w b 0 _ _ _ hb Try.underlying67 rfl (by rw [bitsF_length]; exact size67)
  unfold execOp
  simp only [ho, hx, Instr.loadAt, Instr.sureAddr, Sem.run_bind, Sem.run_pure, Result.andThen_ok, h]
theorem Blk.low {w : World} {b : Nat} {f : Nat → Bool} {l : List Value} {t : TypeId} (h : Blk w b (bitsF f ++ l) t) : w.rangeAt b 0 (bitsF f) := fun j v hv => by
  rw [Nat.zero_add]
  refine h.cell j ?_
  rw [List.getElem?_append_left (List.getElem?_eq_some_iff.1 hv).1]
  exact hv
theorem eq105 (d : Nat) (w : World) (a0 a1 b0 b1 : Int) :
    (Op.equalIn (d + 2) 105 (.agg #[.int .u64 a0, .int .u64 a1]) (.agg #[.int .u64 b0, .int .u64 b1])).run Try.prog w = .ok (a0 == b0 && a1 == b1) w := by
  have hs : ∀ w, (sizeOf 39).run Try.prog w = .ok 1 w := fun _ => by kernel_rfl
  have hp : ∀ w (xs : Array Value) i (v : Value), xs[i]? = some v → (part 39 xs i).run Try.prog w = .ok v w := by
    intro w xs i v h
    have ha : ∀ w, (isAgg 39).run Try.prog w = .ok false w := fun _ => by kernel_rfl
    simp [part, ha, h]
  have pa0 : ∀ w, (part 39 #[.int .u64 a0, .int .u64 a1] 0).run Try.prog w = .ok (.int .u64 a0) w := fun w => hp w _ 0 _ rfl
  have pa1 : ∀ w, (part 39 #[.int .u64 a0, .int .u64 a1] 1).run Try.prog w = .ok (.int .u64 a1) w := fun w => hp w _ 1 _ rfl
  have pb0 : ∀ w, (part 39 #[.int .u64 b0, .int .u64 b1] 0).run Try.prog w = .ok (.int .u64 b0) w := fun w => hp w _ 0 _ rfl
  have pb1 : ∀ w, (part 39 #[.int .u64 b0, .int .u64 b1] 1).run Try.prog w = .ok (.int .u64 b1) w := fun w => hp w _ 1 _ rfl
  clear hp
  rw [Op.equalIn]
  simp only [Sem.run_bind, run_underlying Try.underlying105, Result.andThen_ok]
  simp only [Std.Legacy.Range.forIn_eq_forIn_range', Std.Legacy.Range.size]
  simp [hs, List.range', pa0, pa1, pb0, pb1, run_equalIn_int _ _ _ _ _ _ _ Try.underlying39]
  clear pa0 pa1 pb0 pb1 hs
  by_cases h0 : a0 = b0 <;> by_cases h1 : a1 = b1 <;> simp_all

set_option maxRecDepth 100000 in
set_option maxHeartbeats 2000000 in
theorem same_any (h l : Nat) (hh : h < 18446744073709551616) (hl : l < 18446744073709551616) (w : World) : Calls Try.prog 54 #[num h l, .agg (nmC (2 ^ 64 * h + l)).toArray] w
    fun e w' => e = .returned (.bool true) ∧ Kp w w' := by
  obtain ⟨n, hn⟩ : ∃ n, 2 ^ 64 * h + l = n := ⟨_, rfl⟩
  have hW := refWords_any n (by omega)
  have e1 : n / 2 ^ 64 = h := by omega
  have e2 : n % 2 ^ 64 = l := by omega
  rw [e1, e2] at hW
  rw [hn]
  clear e1 e2 hn hh hl
  have eq := @eq105
  unfold num
  go_enter Try.func54, Try.ntmps54
  go_wp2
  
  
  refine named_world (F := fun w2 => Blk w2 w.heap.size [.int .u64 h, .int .u64 l] 64 ∧ Blk w2 (w.heap.size + 1) (nmC n) 67 ∧ Kp w w2) ⟨(by (repeat (first | with_reducible assumption | ((with_reducible refine Blk.newL ?_ ?_); (focus (first | (simp; done) | omega)); rfl) | with_reducible refine Blk.drew ?_ | with_reducible refine Blk.drewN ?_ _ | with_reducible refine Blk.alloc ?_ _ | ((with_reducible refine Blk.other ?_ ?_ _); rotate_left; (focus (first | with_reducible assumption | omega | (simp; done) | (simp; omega))))))), (by (repeat (first | with_reducible assumption | ((with_reducible refine Blk.newL ?_ ?_); (focus (first | (simp; done) | omega)); rfl) | with_reducible refine Blk.drew ?_ | with_reducible refine Blk.drewN ?_ _ | with_reducible refine Blk.alloc ?_ _ | ((with_reducible refine Blk.other ?_ ?_ _); rotate_left; (focus (first | with_reducible assumption | omega | (simp; done) | (simp; omega))))))), (by (repeat (first | with_reducible assumption | with_reducible exact Kp.refl _ | with_reducible refine Kp.drew ?_ | with_reducible refine Kp.drewN ?_ _ | with_reducible refine Kp.alloc ?_ _ | ((with_reducible refine Kp.setCell ?_ ?_ _); rotate_left; (focus (first | omega | (simp; done) | (simp; omega)))) | with_reducible refine Kp.trans ?_ (by assumption))))⟩ ?_; rintro w2 ⟨xn, xb, kw2⟩; have xn_0 := xn.cell 0 rfl; have xn_1 := xn.cell 1 rfl; have xn_ne := xn.lt; have xn_n1 := Nat.lt_add_one_of_lt xn_ne; have xn_n2 := Nat.lt_add_one_of_lt xn_n1; have xb_ne := xb.lt; have xb_n1 := Nat.lt_add_one_of_lt xb_ne; have xb_n2 := Nat.lt_add_one_of_lt xb_n1
  (refine wp_region_held_drew (S := (fun w' => (∀ b o, b < w2.heap.size → w'.cell? ⟨b, o, none⟩ = w2.cell? ⟨b, o, none⟩) ∧ Kp w2 w')) (by kernel_rfl) ?_ (fun hHd => ?_); (focus ((try dsimp only); (first | with_reducible assumption | with_reducible exact held_start _ | with_reducible exact held_next (by assumption) (by assumption) | with_reducible exact held_alloc (by assumption) _ | with_reducible exact held_drew (by assumption) | ((with_reducible refine held_kp ?_); (repeat (first | with_reducible assumption | with_reducible exact Kp.refl _ | with_reducible refine Kp.drew ?_ | with_reducible refine Kp.drewN ?_ _ | with_reducible refine Kp.alloc ?_ _ | ((with_reducible refine Kp.setCell ?_ ?_ _); rotate_left; (focus (first | omega | (simp; done) | (simp; omega)))) | with_reducible refine Kp.trans ?_ (by assumption))))))))
  (refine takeH (i := 0) (oi := ?o1) (v := (.agg (nmC n).toArray)) ?h1 (by kernel_rfl) ?q1 (Or.inl ⟨?w1, ?y1⟩) (by assumption) ?r1; (case h1 => ((simp only [g1, g3]); rfl)); (case q1 => exact fun _ _ _ h => h); (case w1 => rfl); (case y1 => exact fun w' hSw => exLd67 (.tmp 3) rfl (xb.kp hSw.2) rfl); (try simp only [Act.put, s1, s2, s3]))
  (refine takeH (i := 2) (oi := ?o2) (v := ?v2) ?h2 (by kernel_rfl) ?q2 (Or.inl ⟨?w2, ?y2⟩) (by assumption) ?r2; (case h2 => ((simp only [g1, g2, g3]); rfl)); (case q2 => exact fun _ _ _ h => h); (case w2 => rfl); (case y2 => (intro w' hSw; (try dsimp only at hSw); go_simp; (try with_reducible rfl))); (try simp only [Act.put, s1, s2, s3]))
  (refine takeH (i := 3) (oi := ?o3) (v := ?v3) ?h3 (by kernel_rfl) ?q3 (Or.inl ⟨?w3, ?y3⟩) (by assumption) ?r3; (case h3 => ((simp only [g1, g2, g3]); rfl)); (case q3 => exact fun _ _ _ h => h); (case w3 => rfl); (case y3 => (intro w' hSw; (try dsimp only at hSw); go_simp; (try with_reducible rfl))); (try simp only [Act.put, s1, s2, s3]))
  (refine takeH (i := 4) (oi := ?o4) (v := ?v4) ?h4 (by kernel_rfl) ?q4 (Or.inl ⟨?w4, ?y4⟩) (by assumption) ?r4; (case h4 => ((simp only [g1, g2, g3]); rfl)); (case q4 => exact fun _ _ _ h => h); (case w4 => rfl); (case y4 => (intro w' hSw; (try dsimp only at hSw); go_simp; (try with_reducible rfl))); (try simp only [Act.put, s1, s2, s3]))
  (refine takeH (i := 5) (oi := ?o5) (v := ?v5) ?h5 (by kernel_rfl) ?q5 (Or.inl ⟨?w5, ?y5⟩) (by assumption) ?r5; (case h5 => ((simp only [g1, g2, g3]); rfl)); (case q5 => exact fun _ _ _ h => h); (case w5 => rfl); (case y5 => (intro w' hSw; (try dsimp only at hSw); go_simp; (try with_reducible rfl))); (try simp only [Act.put, s1, s2, s3]))
  (refine takeH (i := 6) (oi := ?o6) (v := ?v6) ?h6 (by kernel_rfl) ?q6 (Or.inl ⟨?w6, ?y6⟩) (by assumption) ?r6; (case h6 => ((simp only [g1, g2, g3]); rfl)); (case q6 => exact fun _ _ _ h => h); (case w6 => rfl); (case y6 => (intro w' hSw; (try dsimp only at hSw); go_simp; (try with_reducible rfl))); (try simp only [Act.put, s1, s2, s3]))
  (refine wpAnyH_ready (rs := [1]) (by kernel_rfl) (by simp) ?_; refine AllReadyH.cons (o := ?o7) ?h7 (fun K hK => ?s7) AllReadyH.nil; (case h7 => (first | ((simp only [g1, g2, g3]); rfl) | rfl)); go_simp; (first | (go_at_call 79; go_must (refine (hW _).mono ?_); rintro e w3 ⟨rfl, kk⟩)); (try go_wp2_with fail); refine hK.out _ _ ?_ (fun hHd => ?_); (focus ((try dsimp only); (first | with_reducible assumption | with_reducible exact held_next (by assumption) (by assumption) | with_reducible exact held_alloc (by assumption) _))); clear hK K; (try simp only [Act.put, s1, s2, s3]))
  (refine takeH (i := 7) (oi := ?o8) (v := ?v8) ?h8 (by kernel_rfl) ?q8 (Or.inl ⟨?w8, ?y8⟩) (by assumption) ?r8; (case h8 => ((simp only [g1, g2, g3]); rfl)); (case q8 => exact fun _ _ _ h => h); (case w8 => rfl); (case y8 => (intro w' hSw; (try dsimp only at hSw); go_simp; (try with_reducible rfl))); (try simp only [Act.put, s1, s2, s3]))
  (refine takeH (i := 8) (oi := ?o9) (v := ?v9) ?h9 (by kernel_rfl) ?q9 (Or.inl ⟨?w9, ?y9⟩) (by assumption) ?r9; (case h9 => ((simp only [g1, g2, g3]); rfl)); (case q9 => exact fun _ _ _ h => h); (case w9 => rfl); (case y9 => (intro w' hSw; (try dsimp only at hSw); go_simp; (try with_reducible rfl))); (try simp only [Act.put, s1, s2, s3]))
  refine wpAnyH_done (by kernel_rfl) ?_ _
  all_goals go_wp2
  all_goals go_ret
  all_goals exact ⟨rfl, (by (repeat (first | with_reducible assumption | with_reducible exact Kp.refl _ | with_reducible refine Kp.drew ?_ | with_reducible refine Kp.drewN ?_ _ | with_reducible refine Kp.alloc ?_ _ | ((with_reducible refine Kp.setCell ?_ ?_ _); rotate_left; (focus (first | omega | (simp; done) | (simp; omega)))) | with_reducible refine Kp.trans ?_ (by assumption))))⟩

theorem adds_any (a1 a0 b1 b0 : Nat) (h1 : a1 < 18446744073709551616) (h0 : a0 < 18446744073709551616) (g1 : b1 < 18446744073709551616) (g0 : b0 < 18446744073709551616) :
    ∃ (sh sl : Nat) (ok : Bool), sh < 18446744073709551616 ∧ sl < 18446744073709551616 ∧ (∀ w, Calls Try.prog 50 #[num a1 a0, num b1 b0] w fun e w' => e = .returned (.tuple #[num sh sl, .bool ok]) ∧ Kp w w')
      ∧ ∀ w, Calls Try.prog 51 #[.agg (nmC (2 ^ 64 * a1 + a0)).toArray, .agg (nmC (2 ^ 64 * b1 + b0)).toArray] w fun e w' => e = .returned (.agg (sumC (2 ^ 64 * sh + sl).testBit ok).toArray) ∧ Kp w w' := by
  have hA := fun w => numAdd_any a1 a0 b1 b0 h1 h0 g1 g0 w
  have hR := refAdd_num (2 ^ 64 * a1 + a0) (2 ^ 64 * b1 + b0)
  by_cases h : a1 + b1 + (a0 + b0) / 18446744073709551616 < 18446744073709551616
  · rw [if_pos h] at hA
    rw [addC_ok (by omega)] at hR
    refine ⟨_, _, true, h, Nat.mod_lt _ (by decide), hA, ?_⟩
    rw [show 2 ^ 64 * (a1 + b1 + (a0 + b0) / 18446744073709551616) + (a0 + b0) % 18446744073709551616 = 2 ^ 64 * a1 + a0 + (2 ^ 64 * b1 + b0) by omega]
    exact hR
  · rw [if_neg h] at hA
    have hc : addC (2 ^ 64 * a1 + a0) (2 ^ 64 * b1 + b0) = sumC (fun _ => false) false := by
      unfold addC
      rw [if_neg]
      unfold carry
      rw [Nat.mod_eq_of_lt (by omega), Nat.mod_eq_of_lt (by omega)]
      simp; omega
    rw [hc] at hR
    refine ⟨0, 0, false, by decide, by decide, hA, ?_⟩
    rw [show (2 ^ 64 * 0 + 0 : Nat).testBit = fun _ => false by funext j; simp]
    exact hR
theorem divs_any (h l d : Nat) (hh : h < 18446744073709551616) (hl : l < 18446744073709551616) (hd : d < 18446744073709551616) :
    ∃ (qh ql r : Nat) (ok : Bool), qh < 18446744073709551616 ∧ ql < 18446744073709551616 ∧ (∀ w, Calls Try.prog 52 #[num h l, .int .u64 d] w fun e w' => e = .returned (.tuple #[num qh ql, .int .u64 r, .bool ok]) ∧ Kp w w')
      ∧ ∀ w, Calls Try.prog 53 #[.agg (nmC (2 ^ 64 * h + l)).toArray, .int .u64 d] w fun e w' => e = .returned (.agg (parC (2 ^ 64 * qh + ql).testBit r ok).toArray) ∧ Kp w w' := by
  rcases Nat.eq_zero_or_pos d with h0 | h0
  · subst h0
    refine ⟨0, 0, 0, false, by decide, by decide, fun w => numDiv0_any h l w, fun w => ?_⟩
    rw [show (2 ^ 64 * 0 + 0 : Nat).testBit = fun _ => false by funext j; simp]
    exact refDiv_zero _ w
  · have hA := fun w => numDiv_any h l d h0 hd hh hl w
    have hR := refDiv_any (2 ^ 64 * h + l) d (by omega) h0 hd
    have e : 2 ^ 64 * h + l = d * (2 ^ 64 * (h / d)) + (h % d * 18446744073709551616 + l) := by
      have e1 := Nat.div_add_mod h d
      have e2 : 2 ^ 64 * h = 2 ^ 64 * (d * (h / d) + h % d) := by rw [e1]
      rw [e2, Nat.mul_add, ← Nat.mul_assoc, ← Nat.mul_assoc, Nat.mul_comm (2 ^ 64) d, Nat.mul_comm (2 ^ 64) (h % d), Nat.add_assoc]
    rw [e, Nat.mul_add_div h0, Nat.mul_add_mod] at hR
    rw [← e] at hR
    refine ⟨_, _, _, true, Nat.lt_of_le_of_lt (Nat.div_le_self _ _) hh, ?_, hA, hR⟩
    apply Nat.div_lt_of_lt_mul
    have hm := Nat.mod_lt h h0
    have : (h % d + 1) * 18446744073709551616 ≤ d * 18446744073709551616 := Nat.mul_le_mul_right _ hm
    omega
end Go.Proofs.Ytepckgcbncdibaa
