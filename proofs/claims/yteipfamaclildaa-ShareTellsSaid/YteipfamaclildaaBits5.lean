/- Numbers of 128 bits: the quotient. -/
import Derived.Test.YteipfamaclildaaBits4

namespace Go.Proofs.Yteipfamaclildaa

open Go.RowKit

theorem stillLd67 {o : Oper} {a : Act} {w : World} {next : Act → Prop} (x : Operand) (ho : o.op = .load 96 x) {b : Nat} {f : Nat → Bool} {t : TypeId} (hb : Blk w b (bitsF f) t) (hx : a.eval x = .pointer (some ⟨b, 0, none⟩))
    (h : next (a.put o.dst (.agg (bitsF f).toArray))) : o.still Try.prog a w next := by
  unfold Oper.still execOp
  simp only [ho, hx, Instr.loadAt, Instr.sureAddr, Sem.run_bind, Sem.run_pure, Result.andThen_ok, results67 hb]
  exact ⟨rfl, h⟩
/-- The quotient's bits from k on. -/
def qF (f : Nat → Bool) (k : Nat) : Nat → Bool := fun j => decide (k ≤ j) && f j
theorem qF_top (f : Nat → Bool) : bitsF (fun _ => false) = bitsF (qF f 128) := bitsF_congr fun j hj => by
  unfold qF
  have : ¬ 128 ≤ j := by omega
  simp [this]
theorem qF_set (f : Nat → Bool) (k : Nat) (h : f k = true) : (fun j => if j = k then true else qF f (k + 1) j) = qF f k := by
  funext j
  unfold qF
  by_cases e : j = k
  · subst e; simp [h]
  · have : (k + 1 ≤ j) ↔ k ≤ j := by omega
    simp [e, this]
theorem qF_skip (f : Nat → Bool) (k : Nat) (h : f k = false) : qF f (k + 1) = qF f k := by
  funext j
  unfold qF
  by_cases e : j = k
  · subst e; simp [h]
  · have : (k + 1 ≤ j) ↔ k ≤ j := by omega
    simp [this]
theorem div_plain {m d b : Nat} (hd : 0 < d) (hb : b < 2) : (d ≤ 2 * (m % d) + b → (2 * m + b) % d = 2 * (m % d) + b - d ∧ (2 * m + b) / d = 2 * (m / d) + 1) ∧ (¬ d ≤ 2 * (m % d) + b → (2 * m + b) % d = 2 * (m % d) + b ∧ (2 * m + b) / d = 2 * (m / d)) := by
  have h1 := Nat.div_add_mod m d
  have h2 := Nat.mod_lt m hd
  generalize m % d = r at *
  generalize m / d = q at *
  subst h1
  have e : 2 * (d * q + r) + b = d * (2 * q) + (2 * r + b) := by rw [Nat.mul_add, ← Nat.mul_assoc, ← Nat.mul_assoc, Nat.mul_comm 2 d]; omega
  rw [e, Nat.mul_add_mod, Nat.mul_add_div hd]
  constructor
  · intro h
    have e2 : 2 * r + b = d * 1 + (2 * r + b - d) := by omega
    have e3 : 2 * r + b - d < d := by omega
    constructor
    · rw [e2, Nat.mul_add_mod, Nat.mod_eq_of_lt e3]
      omega
    · rw [e2, Nat.mul_add_div hd, Nat.div_eq_of_lt e3]
  · intro h
    rw [Nat.mod_eq_of_lt (by omega), Nat.div_eq_of_lt (by omega)]
    exact ⟨rfl, rfl⟩
theorem div_bit (a d k : Nat) : (a / d).testBit k = decide (a / 2 ^ k / d % 2 = 1) := by
  rw [Nat.testBit_eq_decide_div_mod_eq, Nat.div_div_eq_div_mul, Nat.div_div_eq_div_mul, Nat.mul_comm]
theorem div_step {a d k : Nat} (hd : 0 < d) (r : Nat) (hr : r = a / 2 ^ (k + 1) % d) :
    (d ≤ 2 * r + nat01 (a.testBit k) → 2 * r + nat01 (a.testBit k) - d = a / 2 ^ k % d ∧ (a / d).testBit k = true) ∧ (¬ d ≤ 2 * r + nat01 (a.testBit k) → 2 * r + nat01 (a.testBit k) = a / 2 ^ k % d ∧ (a / d).testBit k = false) := by
  have h := div_plain (m := a / 2 ^ (k + 1)) hd (show nat01 (a.testBit k) < 2 by unfold nat01; split <;> decide)
  rw [← div_half, ← hr] at h
  rw [div_bit]
  constructor
  · intro hle
    obtain ⟨h1, h2⟩ := h.1 hle
    refine ⟨h1.symm, ?_⟩
    rw [h2]; simp
  · intro hle
    obtain ⟨h1, h2⟩ := h.2 hle
    refine ⟨h1.symm, ?_⟩
    rw [h2]; simp
theorem parC_one (f : Nat → Bool) (r : Int) (ok : Bool) : ∀ v ∈ parC f r ok, v.oneCell' = true := by
  intro v hv
  rcases List.mem_append.1 hv with h | h
  · exact bitsF_one f v h
  · simp at h
    rcases h with h | h <;> subst h <;> rfl
theorem built77 (f : Nat → Bool) (r : Int) (ok : Bool) : Try.prog.built 98 [(0, .agg (bitsF f).toArray), (1, .int .u64 r), (2, .bool ok)] = some (parC f r ok).toArray := by
  have h : ∀ parts, Try.prog.built 98 parts = Instr.fill (fun i => #[(0, 128), (128, 1), (129, 1)][i]?) Try.zeroCells98 parts := fun parts => by kernel_rfl
  rw [h, zeros77]
  have e1 := fill_part (place := fun i => #[(0, 128), (128, 1), (129, 1)][i]?) [] (bitsF fun _ => false) [.int .u64 0, .bool false] (bitsF f) (i := 0) (v := .agg (bitsF f).toArray) (rest := [(1, .int .u64 r), (2, .bool ok)]) rfl (by rw [bitsF_length]; rfl) (by rw [bitsF_length, bitsF_length])
  have e2 := fill_part (place := fun i => #[(0, 128), (128, 1), (129, 1)][i]?) (bitsF f) [.int .u64 0] [.bool false] [.int .u64 r] (i := 1) (v := .int .u64 r) (rest := [(2, .bool ok)]) rfl (by rw [bitsF_length]; rfl) rfl
  have e3 := fill_part (place := fun i => #[(0, 128), (128, 1), (129, 1)][i]?) (bitsF f ++ [.int .u64 r]) [.bool false] [] [.bool ok] (i := 2) (v := .bool ok) (rest := []) rfl (by rw [List.length_append, bitsF_length]; rfl) rfl
  rw [List.nil_append, List.nil_append] at e1
  rw [List.append_assoc, List.append_assoc] at e2
  rw [List.append_nil, List.append_nil, List.append_assoc, List.append_assoc] at e3
  unfold parC
  exact (e1.trans (e2.trans e3)).trans rfl

theorem ixRow {ops : Array Oper} {rest : List Oper} {op : Oper} {a : Act} {w : World} {Q : Exit → Act → World → Prop} (hgd : op.guard = none) (t : TypeId) (x y : Operand) (ho : op.op = .index t x y)
    {v i u : Value} (hx : a.eval x = v) (hy : a.eval y = i) (hf : (Instr.index t v i).run Try.prog w = .ok u w) (h : wpList Try.prog ops Q rest (a.put op.dst u) w) : wpList Try.prog ops Q (op :: rest) a w :=
  wpList_plain hgd fun _ hK => by
    unfold Oper.wp execOp
    simp only [ho, hx, hy, Sem.run_bind, hf, Result.andThen_ok, Sem.run_pure]
    exact hK _ _ h
theorem index105 (x y : Int) (w : World) : (Instr.index 93 (.agg #[.int .u64 x, .int .u64 y]) (.int .i64 1)).run Try.prog w = .ok (.int .u64 y) w := by
  have hb := Try.isAgg92
  simp [Instr.index, go_sem, hb, part]
theorem exLd67 {o : Oper} {a : Act} {w : World} (x : Operand) (ho : o.op = .load 96 x) {b : Nat} {f : Nat → Bool} {t : TypeId} (hb : Blk w b (bitsF f) t) (hx : a.eval x = .pointer (some ⟨b, 0, none⟩)) :
    (execOp a.eval o).run Try.prog w = .ok (.value (.agg (bitsF f).toArray)) w := by
  unfold execOp
  simp only [ho, hx, Instr.loadAt, Instr.sureAddr, Sem.run_bind, Sem.run_pure, Result.andThen_ok, results67 hb]
theorem exIx {o : Oper} {a : Act} {w : World} (t : TypeId) (x y : Operand) (ho : o.op = .index t x y) {v i u : Value} (hx : a.eval x = v) (hy : a.eval y = i) (hf : (Instr.index t v i).run Try.prog w = .ok u w) :
    (execOp a.eval o).run Try.prog w = .ok (.value u) w := by
  unfold execOp
  simp only [ho, hx, hy, Sem.run_bind, hf, Result.andThen_ok, Sem.run_pure]
theorem exBd3 {o : Oper} {a : Act} {w : World} (t : TypeId) (i0 : Nat) (x0 : Operand) (i1 : Nat) (x1 : Operand) (i2 : Nat) (x2 : Operand) (ho : o.op = .build t #[(i0, x0), (i1, x1), (i2, x2)])
    {cells : List Value} {v0 v1 v2 : Value} (e0 : a.eval x0 = v0) (e1 : a.eval x1 = v1) (e2 : a.eval x2 = v2) (hb : Try.prog.built t [(i0, v0), (i1, v1), (i2, v2)] = some cells.toArray) :
    (execOp a.eval o).run Try.prog w = .ok (.value (.agg cells.toArray)) w := by
  have h : Try.prog.built t ((#[(i0, x0), (i1, x1), (i2, x2)] : Array (Nat × Operand)).map fun (i, x) => (i, a.eval x)).toList = some cells.toArray := by rw [← e0, ← e1, ← e2] at hb; simpa using hb
  unfold execOp
  simp only [ho, Sem.run_bind, run_build w t _ _ h, Result.andThen_ok, Sem.run_pure]
theorem end_retX {P : Program} {K : Act → World → Prop} {Q : Exit → Act → World → Prop} {a : Act} {w : World} (hK : ∀ a w, Code.wp P Code.ret Q a w → K a w) (h : Q .ret a w) : Exit.then K Q .normal a w := hK a w (wp_ret h)
theorem wpStRow {ty : TypeId} {n : Nat} (R : RowT ty n) {op : Oper} {a : Act} {w : World} {K : Act → World → Prop} {Q : Exit → Act → World → Prop} {vs : List Value} (x y : Operand) (ho : op.op = .store ty x y)
    {b : Nat} {cs : List Value} {t : TypeId} (hb : Blk w b cs t) (hc : cs.length = n) (hv : vs.length = n) (h1 : ∀ v ∈ vs, v.oneCell' = true) (hx : a.eval x = .pointer (some ⟨b, 0, none⟩)) (hy : a.eval y = .agg vs.toArray)
    (h : K (a.put op.dst undef) (w.setCells b 0 vs)) : op.wp Try.prog a w K Q :=
  wp_store_mid ty x y ho b 0 _ hx hy (by have := hb.there; rw [hc] at this; rw [List.size_toArray, hv]; exact this) (by rw [List.size_toArray, hv]; exact R.size) (all_oneCell_toArray h1) h

set_option maxRecDepth 100000 in
set_option maxHeartbeats 4000000 in
theorem refDiv_zero (a : Nat) (w : World) : Calls Try.prog 55 #[.agg (nmC a).toArray, .int .u64 0] w
    fun e w' => e = .returned (.agg (parC (fun _ => false) 0 false).toArray) ∧ Kp w w' := by
  go_enter Try.func55, Try.ntmps55
  have xs : Blk ((w.alloc (.cells (nmC a).toArray 96)).alloc (.cells Try.zeroCells98 98)) (w.heap.size + 1) (parC (fun _ => false) 0 false) 98 := by rw [zeros77]; exact (by (repeat (first | with_reducible assumption | ((with_reducible refine Blk.newL ?_ ?_); (focus (first | (simp; done) | omega)); rfl) | with_reducible refine Blk.drew ?_ | with_reducible refine Blk.drewN ?_ _ | with_reducible refine Blk.alloc ?_ _ | ((with_reducible refine Blk.other ?_ ?_ _); rotate_left; (focus (first | with_reducible assumption | omega | (simp; done) | (simp; omega)))))))
  go_wp2_with ((refine stRow row77 (vs := (parC (fun _ => false) 0 false)) ?gd (.tmp 4) (.tmp 11) ?ho xs ?hc ?hv ?h1 ?hx ?hy ?_; (case gd => rfl); (case ho => rfl); (case hx => rfl); (case hy => first | rfl | (exact congrArg Value.agg zeros72) | (exact congrArg Value.agg zeros77)); (case hc => first | exact sumC_length _ _ | exact parC_length _ _ _ | exact bitsF_length _); (case hv => first | exact sumC_length _ _ | exact parC_length _ _ _ | exact bitsF_length _); (case h1 => exact (parC_one _ _ _))); refine Hid.out ?_)
  refine Lib.hid (end_ret2 (by assumption) ?_)
  refine ret_blk (xs.all (by rw [parC_length])) ?hr ?hd ?_; (case hr => intro wz bz; exact ret_cellRow row77 Try.results55 (by first | exact sumC_length _ _ | exact parC_length _ _ _ | exact bitsF_length _) rfl bz); (case hd => rfl)
  exact ⟨rfl, (by (repeat (first | with_reducible assumption | with_reducible exact Kp.refl _ | with_reducible refine Kp.drew ?_ | with_reducible refine Kp.drewN ?_ _ | with_reducible refine Kp.alloc ?_ _ | ((with_reducible refine Kp.setCell ?_ ?_ _); rotate_left; (focus (first | omega | (simp; done) | (simp; omega)))) | ((with_reducible refine Kp.setCells ?_ _ _ _ ?_); (focus (first | omega | (simp; done) | (simp; omega)))) | with_reducible refine Kp.trans ?_ (by assumption))))⟩

set_option maxRecDepth 100000 in
set_option maxHeartbeats 4000000 in
theorem refDiv_any (a d : Nat) (ha : a < 2 ^ 128) (hd0 : 0 < d) (hd : d < 18446744073709551616) (w : World) : Calls Try.prog 55 #[.agg (nmC a).toArray, .int .u64 d] w
    fun e w' => e = .returned (.agg (parC (a / d).testBit (a % d : Nat) true).toArray) ∧ Kp w w' := by
  have hN := refOf_any d hd
  have HA := Lib.hid ha
  have HD := Lib.hid hd
  have H0 := Lib.hid hd0
  have hne : (d : Int) ≠ 0 := by omega
  have hmm : Try.prog.follows .mixedOrders = true := by kernel_rfl
  clear ha hd hd0
  go_enter Try.func55, Try.ntmps55
  go_wp2_with fail
  refine (hN _).mono ?_
  rintro e w1 ⟨rfl, k1⟩
  have xa : Blk w1 w.heap.size (nmC a) 96 := Blk.kp (by (repeat (first | with_reducible assumption | ((with_reducible refine Blk.newL ?_ ?_); (focus (first | (simp; done) | omega)); rfl) | with_reducible refine Blk.drew ?_ | with_reducible refine Blk.drewN ?_ _ | with_reducible refine Blk.alloc ?_ _ | ((with_reducible refine Blk.other ?_ ?_ _); rotate_left; (focus (first | with_reducible assumption | omega | (simp; done) | (simp; omega))))))) k1
  have xs : Blk w1 (w.heap.size + 1) (parC (fun _ => false) 0 false) 98 := Blk.kp (by rw [zeros77]; exact (by (repeat (first | with_reducible assumption | ((with_reducible refine Blk.newL ?_ ?_); (focus (first | (simp; done) | omega)); rfl) | with_reducible refine Blk.drew ?_ | with_reducible refine Blk.drewN ?_ _ | with_reducible refine Blk.alloc ?_ _ | ((with_reducible refine Blk.other ?_ ?_ _); rotate_left; (focus (first | with_reducible assumption | omega | (simp; done) | (simp; omega)))))))) k1
  have xq : Blk w1 (w.heap.size + 1 + 1) (bitsF fun _ => false) 96 := Blk.kp (by rw [zeros67]; exact (by (repeat (first | with_reducible assumption | ((with_reducible refine Blk.newL ?_ ?_); (focus (first | (simp; done) | omega)); rfl) | with_reducible refine Blk.drew ?_ | with_reducible refine Blk.drewN ?_ _ | with_reducible refine Blk.alloc ?_ _ | ((with_reducible refine Blk.other ?_ ?_ _); rotate_left; (focus (first | with_reducible assumption | omega | (simp; done) | (simp; omega)))))))) k1
  have xr : Blk w1 (w.heap.size + 1 + 1 + 1) (bitsF fun _ => false) 96 := Blk.kp (by rw [zeros67]; exact (by (repeat (first | with_reducible assumption | ((with_reducible refine Blk.newL ?_ ?_); (focus (first | (simp; done) | omega)); rfl) | with_reducible refine Blk.drew ?_ | with_reducible refine Blk.drewN ?_ _ | with_reducible refine Blk.alloc ?_ _ | ((with_reducible refine Blk.other ?_ ?_ _); rotate_left; (focus (first | with_reducible assumption | omega | (simp; done) | (simp; omega)))))))) k1
  have xk : Kp w w1 := ((by (repeat (first | with_reducible assumption | with_reducible exact Kp.refl _ | with_reducible refine Kp.drew ?_ | with_reducible refine Kp.drewN ?_ _ | with_reducible refine Kp.alloc ?_ _ | ((with_reducible refine Kp.setCell ?_ ?_ _); rotate_left; (focus (first | omega | (simp; done) | (simp; omega)))) | with_reducible refine Kp.trans ?_ (by assumption)))) : Kp w _).trans k1
  have n1 := xa.lt
  have n2 := xs.lt
  have n3 := xq.lt
  have n4 := xr.lt
  clear hN k1 hne
  unfold nmC at xa ⊢
  go_wp2_with ((refine st67 (b := ?b21) (t := ?t21) (f := (fun _ => false)) (g := d.testBit) ?gd (.tmp 7) (.tmp 13) ?ho ?hb ?hx ?hy ?_; (case gd => rfl); (case ho => rfl); (case hx => rfl); (case hy => rfl); (case hb => (repeat (first | with_reducible exact Blk.zero67 _ _ | with_reducible exact Blk.numNew _ _ _ | with_reducible refine Blk.num (by assumption) | ((with_reducible refine Blk.numAway ?_ _ _ _ ?_); (focus (first | with_reducible assumption | omega | (simp; done) | (simp; omega)))) | with_reducible assumption | ((with_reducible refine Blk.newL ?_ ?_); (focus (first | (simp; done) | omega)); rfl) | with_reducible refine Blk.drew ?_ | with_reducible refine Blk.drewN ?_ _ | with_reducible refine Blk.alloc ?_ _ | ((with_reducible refine Blk.other ?_ ?_ _); rotate_left; (focus (first | with_reducible assumption | omega | (simp; done) | (simp; omega)))))))))
  go_loopw [8] (fun v8 wr => ∃ k r : Nat, k ≤ 128 ∧ v8 = .int .i64 ((k : Int) - 1) ∧ Blk wr w.heap.size (bitsF a.testBit) 96 ∧ Blk wr (w.heap.size + 1) (parC (fun _ => false) 0 false) 98 ∧ Blk wr (w.heap.size + 1 + 1) (bitsF (qF (a / d).testBit k)) 96 ∧
      Blk wr (w.heap.size + 1 + 1 + 1) (bitsF r.testBit) 96 ∧ Blk wr w1.heap.size (bitsF d.testBit) 96 ∧ Kp w wr ∧ Hid (r = a / 2 ^ k % d)) (fun v8 _ => (intOf v8 + 1).toNat)
  case atStart =>
    refine ⟨128, 0, by omega, rfl, (by (repeat (first | with_reducible exact Blk.zero67 _ _ | with_reducible exact Blk.numNew _ _ _ | with_reducible refine Blk.num (by assumption) | ((with_reducible refine Blk.numAway ?_ _ _ _ ?_); (focus (first | with_reducible assumption | omega | (simp; done) | (simp; omega)))) | with_reducible assumption | ((with_reducible refine Blk.newL ?_ ?_); (focus (first | (simp; done) | omega)); rfl) | with_reducible refine Blk.drew ?_ | with_reducible refine Blk.drewN ?_ _ | with_reducible refine Blk.alloc ?_ _ | ((with_reducible refine Blk.other ?_ ?_ _); rotate_left; (focus (first | with_reducible assumption | omega | (simp; done) | (simp; omega))))))), (by (repeat (first | with_reducible exact Blk.zero67 _ _ | with_reducible exact Blk.numNew _ _ _ | with_reducible refine Blk.num (by assumption) | ((with_reducible refine Blk.numAway ?_ _ _ _ ?_); (focus (first | with_reducible assumption | omega | (simp; done) | (simp; omega)))) | with_reducible assumption | ((with_reducible refine Blk.newL ?_ ?_); (focus (first | (simp; done) | omega)); rfl) | with_reducible refine Blk.drew ?_ | with_reducible refine Blk.drewN ?_ _ | with_reducible refine Blk.alloc ?_ _ | ((with_reducible refine Blk.other ?_ ?_ _); rotate_left; (focus (first | with_reducible assumption | omega | (simp; done) | (simp; omega))))))), by rw [← qF_top]; exact (by (repeat (first | with_reducible exact Blk.zero67 _ _ | with_reducible exact Blk.numNew _ _ _ | with_reducible refine Blk.num (by assumption) | ((with_reducible refine Blk.numAway ?_ _ _ _ ?_); (focus (first | with_reducible assumption | omega | (simp; done) | (simp; omega)))) | with_reducible assumption | ((with_reducible refine Blk.newL ?_ ?_); (focus (first | (simp; done) | omega)); rfl) | with_reducible refine Blk.drew ?_ | with_reducible refine Blk.drewN ?_ _ | with_reducible refine Blk.alloc ?_ _ | ((with_reducible refine Blk.other ?_ ?_ _); rotate_left; (focus (first | with_reducible assumption | omega | (simp; done) | (simp; omega))))))), by rw [show (0 : Nat).testBit = fun _ => false by funext j; simp]; exact (by (repeat (first | with_reducible exact Blk.zero67 _ _ | with_reducible exact Blk.numNew _ _ _ | with_reducible refine Blk.num (by assumption) | ((with_reducible refine Blk.numAway ?_ _ _ _ ?_); (focus (first | with_reducible assumption | omega | (simp; done) | (simp; omega)))) | with_reducible assumption | ((with_reducible refine Blk.newL ?_ ?_); (focus (first | (simp; done) | omega)); rfl) | with_reducible refine Blk.drew ?_ | with_reducible refine Blk.drewN ?_ _ | with_reducible refine Blk.alloc ?_ _ | ((with_reducible refine Blk.other ?_ ?_ _); rotate_left; (focus (first | with_reducible assumption | omega | (simp; done) | (simp; omega))))))), (by (repeat (first | with_reducible exact Blk.zero67 _ _ | with_reducible exact Blk.numNew _ _ _ | with_reducible refine Blk.num (by assumption) | ((with_reducible refine Blk.numAway ?_ _ _ _ ?_); (focus (first | with_reducible assumption | omega | (simp; done) | (simp; omega)))) | with_reducible assumption | ((with_reducible refine Blk.newL ?_ ?_); (focus (first | (simp; done) | omega)); rfl) | with_reducible refine Blk.drew ?_ | with_reducible refine Blk.drewN ?_ _ | with_reducible refine Blk.alloc ?_ _ | ((with_reducible refine Blk.other ?_ ?_ _); rotate_left; (focus (first | with_reducible assumption | omega | (simp; done) | (simp; omega))))))), (by (repeat (first | with_reducible assumption | with_reducible exact Kp.refl _ | with_reducible refine Kp.drew ?_ | with_reducible refine Kp.drewN ?_ _ | with_reducible refine Kp.alloc ?_ _ | ((with_reducible refine Kp.setCell ?_ ?_ _); rotate_left; (focus (first | omega | (simp; done) | (simp; omega)))) | ((with_reducible refine Kp.setCells ?_ _ _ _ ?_); (focus (first | omega | (simp; done) | (simp; omega)))) | with_reducible refine Kp.trans ?_ (by assumption)))), Lib.hid ?_⟩
    rw [div_top HA.out]; simp
  case round =>
    clear xa xs xq xr xk
    obtain ⟨k, r, hk, rfl, xa, xs, xq, xr, xb, xk, hr⟩ := hrel
    cases k with
    | succ k =>
      rw [show ((k + 1 : Nat) : Int) - 1 = (k : Int) by omega]
      have c0 := xa.bool k (by omega)
      have hU := refUp_any r (a.testBit k)
      go_wp2
      refine wp_region_still_tail 5 hmm (by kernel_rfl) ?_
      simp only [List.take_succ_cons, List.take_zero, List.drop_succ_cons, List.drop_zero]
      have ya := xa.drew
      have ys := xs.drew
      have yq := xq.drew
      have yr := xr.drew
      have yb := xb.drew
      have yk := xk.drew
      clear xa xs xq xr xb xk c0
      change wpStill _ _ wr.drew (fun a' => wpList _ _ _ _ a' wr.drew) _ _
      generalize wr.drew = wd at ya ys yq yr yb yk ⊢
      have c0 := ya.bool k (by omega)
      have hk1 : (k : Int) < 128 := by omega
      refine wpStill_step (fun K hK => ?_)
      rw [if_pos (by rfl)]
      refine stillLd67 (.tmp 6) rfl yr rfl ?_
      refine hK _ ?_
      clear hK K
      repeat still_step
      refine wpStill_nil ?_
      go_wp2_with fail
      refine (hU _).mono ?_
      rintro e w2 ⟨rfl, k2⟩
      have za := ya.kp k2
      have zs := ys.kp k2
      have zq := yq.kp k2
      have zr := yr.kp k2
      have zb := yb.kp k2
      have zk := yk.trans k2
      clear hU ya ys yq yr yb yk k2 c0
      unfold nmC
      obtain ⟨r2, h2⟩ : ∃ r2, 2 * r + nat01 (a.testBit k) = r2 := ⟨_, rfl⟩
      rw [h2]
      go_wp2_with (first | (refine st67w (g := r2.testBit) ?gd (.tmp 6) (.tmp 23) ?ho zr ?hx ?hy ?_; (case gd => rfl); (case ho => rfl); (case hx => rfl); (case hy => rfl)) | fail)
      intro w3 yr oth kp sz3
      have ya := oth (by omega) za
      have ys := oth (by omega) zs
      have yq := oth (by omega) zq
      have yb := oth (by omega) zb
      have yk := kp (by omega) zk
      clear za zs zq zr zb zk oth kp
      have hst := div_step (a := a) (d := d) (k := k) H0.out r hr.out
      rw [h2] at hst
      have hr1 : r < d := by rw [hr.out]; exact Nat.mod_lt _ H0.out
      have hb1 : nat01 (a.testBit k) < 2 := by unfold nat01; split <;> decide
      have hL := refLess_any r2 d (by have := HD.out; omega) (by have := HD.out; omega)
      clear hr1 hb1 hr h2
      go_wp2_with (first | (refine ld67 ?gd (.tmp 6) ?ho yr ?hx ?_; (case gd => rfl); (case ho => rfl); (case hx => rfl)) | (refine ld67 ?gd (.tmp 7) ?ho yb ?hx ?_; (case gd => rfl); (case ho => rfl); (case hx => rfl)) | fail)
      refine (hL _).mono ?_
      rintro e w4 ⟨rfl, k4⟩
      have za := ya.kp k4
      have zs := ys.kp k4
      have zq := yq.kp k4
      have zr := yr.kp k4
      have zb := yb.kp k4
      have zk := yk.trans k4
      clear hL ya ys yq yr yb yk k4
      by_cases hlt : r2 < d
      · have hv : decide (r2 < d) = true := decide_eq_true hlt
        rw [hv]
        obtain ⟨h1, h2⟩ := hst.2 (by omega)
        have HR := Lib.hid h1
        rw [qF_skip _ _ h2] at zq
        clear hst h1 h2 hv hlt
        go_wp2
        go_roundw
        case rel => exact ⟨k, r2, by omega, rfl, za, zs, zq, zr, zb, zk, HR⟩
        case measure => simp [intOf]
      · have hv : decide (r2 < d) = false := decide_eq_false hlt
        rw [hv]
        obtain ⟨h1, h2⟩ := hst.1 (by omega)
        have HR := Lib.hid h1
        have hM := refMinus_any r2 d (by omega)
        have HQ := Lib.hid (qF_set _ _ h2)
        clear hst h1 h2 hv hlt
        go_wp2_with (first | (refine ld67 ?gd (.tmp 6) ?ho zr ?hx ?_; (case gd => rfl); (case ho => rfl); (case hx => rfl)) | (refine ld67 ?gd (.tmp 7) ?ho zb ?hx ?_; (case gd => rfl); (case ho => rfl); (case hx => rfl)) | fail)
        refine (hM _).mono ?_
        rintro e w5 ⟨rfl, k5⟩
        have ya := za.kp k5
        have ys := zs.kp k5
        have yq := zq.kp k5
        have yr := zr.kp k5
        have yb := zb.kp k5
        have yk := zk.trans k5
        clear hM za zs zq zr zb zk k5
        unfold nmC
        obtain ⟨r3, h3⟩ : ∃ r3, r2 - d = r3 := ⟨_, rfl⟩
        rw [h3] at HR ⊢
        clear h3
        go_wp2_with (first | (refine st67w (g := r3.testBit) ?gd (.tmp 6) (.tmp 30) ?ho yr ?hx ?hy ?_; (case gd => rfl); (case ho => rfl); (case hx => rfl); (case hy => rfl)) | fail)
        intro w6 zr oth kp sz6
        have za := oth (by omega) ya
        have zs := oth (by omega) ys
        have zq := oth (by omega) yq
        have zb := oth (by omega) yb
        have zk := kp (by omega) yk
        clear ya ys yq yr yb yk oth kp
        have f0 := zq.free k
        have c0 := zq.bool k (by omega)
        go_wp2
        go_roundw
        case rel =>
          refine ⟨k, r3, by omega, rfl, (by (repeat (first | with_reducible assumption | ((with_reducible refine Blk.newL ?_ ?_); (focus (first | (simp; done) | omega)); rfl) | with_reducible refine Blk.drew ?_ | with_reducible refine Blk.drewN ?_ _ | with_reducible refine Blk.alloc ?_ _ | ((with_reducible refine Blk.other ?_ ?_ _); rotate_left; (focus (first | with_reducible assumption | omega | (simp; done) | (simp; omega))))))), (by (repeat (first | with_reducible assumption | ((with_reducible refine Blk.newL ?_ ?_); (focus (first | (simp; done) | omega)); rfl) | with_reducible refine Blk.drew ?_ | with_reducible refine Blk.drewN ?_ _ | with_reducible refine Blk.alloc ?_ _ | ((with_reducible refine Blk.other ?_ ?_ _); rotate_left; (focus (first | with_reducible assumption | omega | (simp; done) | (simp; omega))))))), ?_, (by (repeat (first | with_reducible assumption | ((with_reducible refine Blk.newL ?_ ?_); (focus (first | (simp; done) | omega)); rfl) | with_reducible refine Blk.drew ?_ | with_reducible refine Blk.drewN ?_ _ | with_reducible refine Blk.alloc ?_ _ | ((with_reducible refine Blk.other ?_ ?_ _); rotate_left; (focus (first | with_reducible assumption | omega | (simp; done) | (simp; omega))))))), (by (repeat (first | with_reducible assumption | ((with_reducible refine Blk.newL ?_ ?_); (focus (first | (simp; done) | omega)); rfl) | with_reducible refine Blk.drew ?_ | with_reducible refine Blk.drewN ?_ _ | with_reducible refine Blk.alloc ?_ _ | ((with_reducible refine Blk.other ?_ ?_ _); rotate_left; (focus (first | with_reducible assumption | omega | (simp; done) | (simp; omega))))))), (by (repeat (first | with_reducible assumption | with_reducible exact Kp.refl _ | with_reducible refine Kp.drew ?_ | with_reducible refine Kp.drewN ?_ _ | with_reducible refine Kp.alloc ?_ _ | ((with_reducible refine Kp.setCell ?_ ?_ _); rotate_left; (focus (first | omega | (simp; done) | (simp; omega)))) | with_reducible refine Kp.trans ?_ (by assumption)))), HR⟩
          rw [← HQ.out, ← bitsF_set]; exact zq.set k _
        case measure => simp [intOf]
    | zero =>
      have hr0 : r = a % d := by rw [hr.out, Nat.pow_zero, Nat.div_one]
      have hr1 : r < 18446744073709551616 := by rw [hr0]; exact Nat.lt_trans (Nat.mod_lt _ H0.out) HD.out
      have hW := refWords_any r (by omega)
      rw [Nat.div_eq_of_lt (show r < 2 ^ 64 by omega), Nat.mod_eq_of_lt (show r < 2 ^ 64 by omega)] at hW
      have hq0 : qF (a / d).testBit 0 = (a / d).testBit := by funext j; unfold qF; simp
      rw [hq0] at xq
      have HR := Lib.hid hr0
      have he := built77 (a / d).testBit r true
      clear hr hr0 hr1 hq0 hk
      go_wp2
      have zq := xq.drew
      have zr := xr.drew
      have zs := xs.drew
      have zk := xk.drew
      clear xa xs xq xr xb xk
      (refine wp_region_held_drew (S := fun w' => Blk w' (w.heap.size + 1 + 1) (bitsF (a / d).testBit) 96 ∧ Blk w' (w.heap.size + 1 + 1 + 1) (bitsF r.testBit) 96 ∧ (∃ cs, cs.length = 130 ∧ Blk w' (w.heap.size + 1) cs 98) ∧ Kp w w') (by kernel_rfl) ⟨zq, zr, ⟨_, parC_length _ _ _, zs⟩, zk⟩ (fun hHd => ?_))
      (refine takeH (i := 0) (oi := ?o1) (v := .agg (bitsF (a / d).testBit).toArray) ?h1 (by kernel_rfl) ?q1 (Or.inl ⟨?w1, ?y1⟩) (by assumption) ?r1; (case h1 => ((simp only [g1, g3]); rfl)); (case q1 => exact fun _ _ _ h => h); (case w1 => rfl); (case y1 => exact fun w' hSw => exLd67 (.tmp 5) rfl hSw.1 rfl); (try simp only [Act.put, s1, s2, s3]))
      (refine takeH (i := 1) (oi := ?o2) (v := .agg (bitsF r.testBit).toArray) ?h2 (by kernel_rfl) ?q2 (Or.inl ⟨?w2, ?y2⟩) (by assumption) ?r2; (case h2 => ((simp only [g1, g2, g3]); rfl)); (case q2 => exact fun _ _ _ h => h); (case w2 => rfl); (case y2 => exact fun w' hSw => exLd67 (.tmp 6) rfl hSw.2.1 rfl); (try simp only [Act.put, s1, s2, s3]))
      refine wpAnyH_ready (rs := [2]) (by kernel_rfl) (by simp) ?_
      refine AllReadyH.cons (o := ?o3) ?h3 (fun K hK => ?s3) AllReadyH.nil
      case h3 => first | ((simp only [g1, g2, g3]); rfl) | rfl
      case s3 =>
        go_simp
        go_at_call 57
        refine (hW _).mono ?_
        rintro e w2 ⟨rfl, k2⟩
        try go_wp2_with fail
        obtain ⟨zq, zr, ⟨cs, hcs, zs⟩, zk⟩ := hHd
        refine hK.out _ _ ⟨zq.kp k2, zr.kp k2, ⟨cs, hcs, zs.kp k2⟩, zk.trans k2⟩ (fun hHd => ?_)
        clear hK K zq zr zs zk hcs k2 hW
        try simp only [Act.put, s1, s2, s3]
        (refine takeH (i := 3) (oi := ?o4) (v := .int .u64 r) ?h4 (by kernel_rfl) ?q4 (Or.inl ⟨?w4, ?y4⟩) (by assumption) ?r4; (case h4 => ((simp only [g1, g2, g3]); rfl)); (case q4 => exact fun _ _ _ h => h); (case w4 => rfl); (case y4 => exact fun w' hSw => exIx 93 (.tmp 36) (.const (.int .i64 1)) rfl rfl rfl (index105 0 r _)); (try simp only [Act.put, s1, s2, s3]))
        (refine takeH (i := 4) (oi := ?o5) (v := .agg (parC (a / d).testBit r true).toArray) ?h5 (by kernel_rfl) ?q5 (Or.inl ⟨?w5, ?y5⟩) (by assumption) ?r5; (case h5 => ((simp only [g1, g2, g3]); rfl)); (case q5 => exact fun _ _ _ h => h); (case w5 => rfl); (case y5 => exact fun w' hSw => exBd3 98 0 (.tmp 34) 1 (.tmp 37) 2 (.const (.bool true)) rfl rfl rfl rfl he); (try simp only [Act.put, s1, s2, s3]))
        refine wpAnyH_ready (rs := [5]) (by kernel_rfl) (by simp) ?_
        refine AllReadyH.cons (o := ?o6) ?h6 (fun K hK => ?s6) AllReadyH.nil
        case h6 => first | ((simp only [g1, g2, g3]); rfl) | rfl
        case s6 =>
          obtain ⟨zq, zr, ⟨cs, hcs, zs⟩, zk⟩ := hHd
          refine wpStRow row77 (.tmp 4) (.tmp 38) rfl zs hcs (parC_length _ _ _) (parC_one _ _ _) rfl rfl ?_
          refine hK.out _ _ ⟨zq.away (by omega) _ _ _, zr.away (by omega) _ _ _, ⟨_, parC_length _ _ _, zs.all (by rw [parC_length, hcs])⟩, (by (repeat (first | with_reducible assumption | with_reducible exact Kp.refl _ | with_reducible refine Kp.drew ?_ | with_reducible refine Kp.drewN ?_ _ | with_reducible refine Kp.alloc ?_ _ | ((with_reducible refine Kp.setCell ?_ ?_ _); rotate_left; (focus (first | omega | (simp; done) | (simp; omega)))) | ((with_reducible refine Kp.setCells ?_ _ _ _ ?_); (focus (first | omega | (simp; done) | (simp; omega)))) | with_reducible refine Kp.trans ?_ (by assumption))))⟩ (fun hHd => ?_)
          refine wpAnyH_done (by kernel_rfl) ?_ _
          refine end_retX (by assumption) ?_
          refine ret_blk (zs.all (vs := parC (a / d).testBit r true) (by rw [parC_length, hcs])) ?hr ?hd ?_
          case hr => intro wz bz; exact ret_cellRow row77 Try.results55 (parC_length _ _ _) rfl bz
          case hd => rfl
          exact ⟨by rw [HR.out], (by (repeat (first | with_reducible assumption | with_reducible exact Kp.refl _ | with_reducible refine Kp.drew ?_ | with_reducible refine Kp.drewN ?_ _ | with_reducible refine Kp.alloc ?_ _ | ((with_reducible refine Kp.setCell ?_ ?_ _); rotate_left; (focus (first | omega | (simp; done) | (simp; omega)))) | ((with_reducible refine Kp.setCells ?_ _ _ _ ?_); (focus (first | omega | (simp; done) | (simp; omega)))) | with_reducible refine Kp.trans ?_ (by assumption))))⟩
end Go.Proofs.Yteipfamaclildaa
