/- Numbers of 128 bits, bit by bit. -/
import Derived.Test.YteipfamaclildaaBlk2

import Derived.Test.YteipfamaclildaaHeld

import Derived.Deep.MidRow

namespace Go.Proofs.Yteipfamaclildaa

open Go.RowKit

/-- 128 bits as cells. -/
def bitsF (f : Nat → Bool) : List Value := (List.range 128).map fun j => .bool (f j)
theorem bitsF_length (f : Nat → Bool) : (bitsF f).length = 128 := by simp [bitsF]
theorem bitsF_get (f : Nat → Bool) {j : Nat} (h : j < 128) : (bitsF f)[j]? = some (.bool (f j)) := by
  unfold bitsF; rw [List.getElem?_map, List.getElem?_range h]; rfl
theorem bitsF_set (f : Nat → Bool) (k : Nat) (b : Bool) : (bitsF f).set k (.bool b) = bitsF (fun j => if j = k then b else f j) := by
  unfold bitsF
  apply List.ext_getElem
  · simp
  · intro i h1 h2
    simp only [List.getElem_set, List.getElem_map, List.getElem_range]
    by_cases e : k = i
    · subst e; simp
    · have : ¬ i = k := fun h => e h.symm
      simp [e, this]
theorem bitsF_congr {f g : Nat → Bool} (h : ∀ j, j < 128 → f j = g j) : bitsF f = bitsF g := by
  unfold bitsF; exact List.map_congr_left fun j hj => by rw [h j (List.mem_range.1 hj)]
theorem bitsF_one (f : Nat → Bool) : ∀ v ∈ bitsF f, v.oneCell' = true := by
  intro v hv
  obtain ⟨j, _, rfl⟩ := List.mem_map.1 hv
  rfl
/-- A number of 128 bits. -/
def nmC (n : Nat) : List Value := bitsF n.testBit

theorem zeros67 : Try.zeroCells96 = (bitsF fun _ => false).toArray := by rfl
theorem Blk.bool {w : World} {b : Nat} {f : Nat → Bool} {t : TypeId} (h : Blk w b (bitsF f) t) (k : Nat) (hk : k < 128) : w.cell? ⟨b, k, none⟩ = some (.bool (f k)) := h.cell k (bitsF_get f hk)
/-- The bits below k. -/
def lowF (f : Nat → Bool) (k : Nat) : Nat → Bool := fun j => decide (j < k) && f j
theorem lowF_zero (f : Nat → Bool) : (fun _ => false) = lowF f 0 := by funext j; simp [lowF]
theorem lowF_succ (f : Nat → Bool) (k : Nat) : (fun j => if j = k then f k else lowF f k j) = lowF f (k + 1) := by
  funext j
  unfold lowF
  by_cases e : j = k
  · subst e; simp
  · have : (j < k + 1) ↔ j < k := by omega
    simp [e, this]

theorem Blk.range {w : World} {b : Nat} {cs : List Value} {t : TypeId} (h : Blk w b cs t) : w.rangeAt b 0 cs := fun j v hv => by
  rw [Nat.zero_add]; exact h.cell j hv
theorem Blk.there {w : World} {b : Nat} {cs : List Value} {t : TypeId} (h : Blk w b cs t) : w.there b 0 cs.length := fun j hj => by
  rw [Nat.zero_add]
  exact ⟨by rw [h.cell j (List.getElem?_eq_getElem hj)]; rfl, h.free j⟩
theorem Blk.setCells_at {b : Nat} {t : TypeId} : ∀ (vs : List Value) (o : Nat) (w : World) (cs : List Value), o + vs.length ≤ cs.length → Blk w b cs t → Blk (w.setCells b o vs) b (cs.take o ++ vs ++ cs.drop (o + vs.length)) t
  | [], o, w, cs, _, h => by
    have e : cs.take o ++ [] ++ cs.drop (o + ([] : List Value).length) = cs := by simp
    rw [e]; exact h
  | v :: r, o, w, cs, hl, h => by
    rw [List.length_cons] at hl
    have h2 := Blk.setCells_at r (o + 1) (w.setCell ⟨b, o, none⟩ v) (cs.set o v) (by rw [List.length_set]; omega) (h.set o v)
    have e : (cs.set o v).take (o + 1) ++ r ++ (cs.set o v).drop (o + 1 + r.length) = cs.take o ++ (v :: r) ++ cs.drop (o + (v :: r).length) := by
      have h3 : (cs.set o v).take (o + 1) = cs.take o ++ [v] := by
        rw [List.take_add_one, List.getElem?_set_self (by omega), List.take_set_of_le (Nat.le_refl o)]; rfl
      rw [h3, List.drop_set_of_lt (by omega), List.length_cons, Nat.add_assoc o 1, Nat.add_comm 1]
      simp
    rw [e] at h2
    exact h2
theorem Blk.all {w : World} {b : Nat} {cs vs : List Value} {t : TypeId} (h : Blk w b cs t) (hl : vs.length = cs.length) : Blk (w.setCells b 0 vs) b vs t := by
  have h2 := Blk.setCells_at vs 0 w cs (by omega) h
  have e : cs.take 0 ++ vs ++ cs.drop (0 + vs.length) = vs := by rw [List.take_zero, Nat.zero_add, hl, List.drop_length]; simp
  rw [e] at h2; exact h2
theorem Blk.away {b b' : Nat} {cs : List Value} {t : TypeId} (hb : b ≠ b') : ∀ (vs : List Value) (o : Nat) (w : World), Blk w b cs t → Blk (w.setCells b' o vs) b cs t
  | [], _, _, h => h
  | v :: r, o, w, h => Blk.away hb r (o + 1) (w.setCell ⟨b', o, none⟩ v) (h.other (a := ⟨b', o, none⟩) hb v)
theorem Kp.setCells {W : World} {b : Nat} (hb : W.heap.size ≤ b) : ∀ (vs : List Value) (o : Nat) (w : World), Kp W w → Kp W (w.setCells b o vs)
  | [], _, _, h => h
  | v :: r, o, w, h => Kp.setCells hb r (o + 1) (w.setCell ⟨b, o, none⟩ v) (h.setCell (p := ⟨b, o, none⟩) hb v)
theorem size67 : (Try.prog.info? 96).map (·.size) = some 128 := by kernel_rfl
theorem ld67 {ops : Array Oper} {rest : List Oper} {op : Oper} {a : Act} {w : World} {Q : Exit → Act → World → Prop} (hgd : op.guard = none) (x : Operand) (ho : op.op = .load 96 x)
    {b : Nat} {f : Nat → Bool} {t : TypeId} (hb : Blk w b (bitsF f) t) (hx : a.eval x = .pointer (some ⟨b, 0, none⟩)) (h : wpList Try.prog ops Q rest (a.put op.dst (.agg (bitsF f).toArray)) w) : wpList Try.prog ops Q (op :: rest) a w :=
  wpList_load_mid hgd _ x ho b 0 hx _ _ hb.range Try.underlying96 rfl (by rw [bitsF_length]; exact size67) h
theorem st67 {ops : Array Oper} {rest : List Oper} {op : Oper} {a : Act} {w : World} {Q : Exit → Act → World → Prop} (hgd : op.guard = none) (x y : Operand) (ho : op.op = .store 96 x y)
    {b : Nat} {f g : Nat → Bool} {t : TypeId} (hb : Blk w b (bitsF f) t) (hx : a.eval x = .pointer (some ⟨b, 0, none⟩)) (hy : a.eval y = .agg (bitsF g).toArray) (h : wpList Try.prog ops Q rest (a.put op.dst undef) (w.setCells b 0 (bitsF g))) : wpList Try.prog ops Q (op :: rest) a w :=
  wpList_store_mid hgd _ x y ho b 0 _ hx hy (by rw [List.size_toArray, bitsF_length]; have := hb.there; rwa [bitsF_length] at this) (by rw [List.size_toArray, bitsF_length]; exact size67) (all_oneCell_toArray (bitsF_one _)) h
theorem Blk.num {w : World} {b : Nat} {f g : Nat → Bool} {t : TypeId} (h : Blk w b (bitsF f) t) : Blk (w.setCells b 0 (bitsF g)) b (bitsF g) t := h.all (by rw [bitsF_length, bitsF_length])
theorem Blk.zero67 (w : World) (t : TypeId) : Blk (w.alloc (.cells Try.zeroCells96 t)) w.heap.size (bitsF fun _ => false) t := by rw [zeros67]; exact Blk.new w _ t
theorem Blk.numNew (w : World) (f : Nat → Bool) (t : TypeId) : Blk ((w.alloc (.cells Try.zeroCells96 t)).setCells w.heap.size 0 (bitsF f)) w.heap.size (bitsF f) t := by
  rw [zeros67]; exact (Blk.new w _ t).all (by rw [bitsF_length, bitsF_length])
theorem Blk.numAway {b b' : Nat} {cs : List Value} {t : TypeId} (hb : b ≠ b') (vs : List Value) (o : Nat) (w : World) (h : Blk w b cs t) : Blk (w.setCells b' o vs) b cs t := Blk.away hb vs o w h
/-- The end of a function behind its last region. -/
theorem end_ret {P : Program} {ops : Array Oper} {K : Act → World → Prop} {Q : Exit → Act → World → Prop} {a : Act} {w : World} (hK : ∀ a w, Code.wp P Code.ret Q a w → K a w) (h : Q .ret a w) : wpList P ops (Exit.then K Q) [] a w := hK a w (wp_ret h)
theorem results67 {w : World} {b : Nat} {f : Nat → Bool} {t : TypeId} (h : Blk w b (bitsF f) t) : (loadVar 96 ⟨b, 0, none⟩).run Try.prog w = .ok (.agg (bitsF f).toArray) w :=
  run_loadVar_mid w b 0 _ _ _ h.range Try.underlying96 rfl (by rw [bitsF_length]; exact size67)
theorem ret_cell67 {fn : Func} {p : Tmp} (hf : fn.results = #[.cell p 96]) {tmps : Array Value} {w : World} {b : Nat} {f : Nat → Bool} {t : TypeId} (hp : tmps.getD p undef = .pointer (some ⟨b, 0, none⟩)) (h : Blk w b (bitsF f) t) :
    (results fn tmps).run Try.prog w = .ok (.agg (bitsF f).toArray) w := by
  have hp' : tmps[p]?.getD undef = .pointer (some ⟨b, 0, none⟩) := by rw [← hp]; simp
  simp only [results, hf]
  simp [hp', asAddr, results67 h]

theorem bit_u64 (a k : Nat) (ha : a < 18446744073709551616) : (Go.bits BinOp.and IntKind.u64 (((a / 2 ^ k : Nat)) : Int) 1 == 1) = a.testBit k := by
  have h1 : a / 2 ^ k ≤ a := Nat.div_le_self _ _
  rw [Nat.testBit_eq_decide_div_mod_eq]
  generalize a / 2 ^ k = q at h1 ⊢
  rw [and_one_u64 _ (by omega) (by omega)]
  rw [Bool.eq_iff_iff]
  simp
  omega

set_option maxHeartbeats 1000000 in
theorem refOf_any (a : Nat) (ha : a < 18446744073709551616) (w : World) : Calls Try.prog 80 #[.int .u64 a] w fun e w' => e = .returned (.agg (nmC a).toArray) ∧ Kp w w' := by
  go_enter Try.func80, Try.ntmps80
  go_wp2_with fail
  rw [zeros67]
  go_loopw [4] (fun v4 wr => ∃ k : Nat, k ≤ 64 ∧ v4 = .int .i64 k ∧ Blk wr w.heap.size (bitsF fun _ => false) 96 ∧ Blk wr (w.heap.size + 1) (bitsF (lowF a.testBit k)) 96 ∧ Kp w wr) (fun v4 _ => 64 - (intOf v4).toNat)
  case atStart => exact ⟨0, by omega, rfl, (by (repeat (first | with_reducible assumption | ((with_reducible refine Blk.newL ?_ ?_); (focus (first | (simp; done) | omega)); rfl) | with_reducible refine Blk.drew ?_ | with_reducible refine Blk.drewN ?_ _ | with_reducible refine Blk.alloc ?_ _ | ((with_reducible refine Blk.other ?_ ?_ _); rotate_left; (focus (first | with_reducible assumption | omega | (simp; done) | (simp; omega))))))), by rw [← lowF_zero]; exact (by (repeat (first | with_reducible assumption | ((with_reducible refine Blk.newL ?_ ?_); (focus (first | (simp; done) | omega)); rfl) | with_reducible refine Blk.drew ?_ | with_reducible refine Blk.drewN ?_ _ | with_reducible refine Blk.alloc ?_ _ | ((with_reducible refine Blk.other ?_ ?_ _); rotate_left; (focus (first | with_reducible assumption | omega | (simp; done) | (simp; omega))))))), (by (repeat (first | with_reducible assumption | with_reducible exact Kp.refl _ | with_reducible refine Kp.drew ?_ | with_reducible refine Kp.drewN ?_ _ | with_reducible refine Kp.alloc ?_ _ | ((with_reducible refine Kp.setCell ?_ ?_ _); rotate_left; (focus (first | omega | (simp; done) | (simp; omega)))) | with_reducible refine Kp.trans ?_ (by assumption))))⟩
  case round =>
    obtain ⟨k, hk, rfl, xr, xo, xk⟩ := hrel
    by_cases hlt : k < 64
    · have c0 := xo.bool k (by omega)
      have f0 := xo.free k
      go_wp2
      have e : (Go.bits BinOp.and IntKind.u64 (↑a / 2 ^ k) 1 == 1) = a.testBit k := by
        have h := bit_u64 a k ha
        push_cast at h
        exact h
      rw [e]
      refine ⟨⟨k + 1, by omega, by go_num, xr.other (by simp) _, ?_, xk.setCell (by simp) _⟩, by simp [intOf]; omega⟩
      rw [← lowF_succ, ← bitsF_set]; exact xo.set k _
    · obtain rfl : k = 64 := by omega
      go_wp2_with ((refine ld67 ?gd (.tmp 3) ?ho xo ?hx ?_; (case gd => rfl); (case ho => rfl); (case hx => rfl)); (refine st67 (g := (lowF a.testBit 64)) ?gd (.tmp 2) (.tmp 17) ?ho xr ?hx ?hy ?_; (case gd => rfl); (case ho => rfl); (case hx => rfl); (case hy => rfl)); refine Hid.out ?_)
      refine Lib.hid (end_ret (by assumption) ?_)
      refine ret_blk (Blk.num xr) ?hr ?hd ?_; (case hr => intro wz bz; exact ret_cell67 Try.results80 rfl bz); (case hd => rfl)
      refine ⟨?_, xk.setCells (Nat.le_refl _) _ _⟩
      congr 3
      unfold nmC
      refine bitsF_congr fun j _ => ?_
      unfold lowF
      by_cases h : j < 64
      · simp [h]
      · rw [Nat.testBit_lt_two_pow (Nat.lt_of_lt_of_le ha (Nat.pow_le_pow_right (by decide : 0 < 2) (show 64 ≤ j by omega)))]
        simp/-- The same within a branch. -/
theorem end_ret2 {P : Program} {ops : Array Oper} {K K1 : Act → World → Prop} {Q : Exit → Act → World → Prop} {a : Act} {w : World} (hK : ∀ a w, Code.wp P Code.ret (Exit.then K1 Q) a w → K a w) (h : Q .ret a w) : wpList P ops (Exit.then K (Exit.then K1 Q)) [] a w := hK a w (wp_ret h)

def wideF (high low k : Nat) : Nat → Bool := fun j => if 64 ≤ j ∧ j < 64 + k then high.testBit (j - 64) else low.testBit j
theorem wideF_succ (high low k : Nat) : (fun j => if j = 64 + k then high.testBit k else wideF high low k j) = wideF high low (k + 1) := by
  funext j
  unfold wideF
  by_cases e : j = 64 + k
  · subst e; simp [Nat.add_sub_cancel_left]
  · by_cases h : 64 ≤ j ∧ j < 64 + k
    · rw [if_neg e, if_pos h, if_pos (by omega)]
    · rw [if_neg e, if_neg h, if_neg (by omega)]
/-- The carry below bit k. -/
def carry (a b k : Nat) : Bool := decide (2 ^ k ≤ a % 2 ^ k + b % 2 ^ k)
theorem carry_zero (a b : Nat) : carry a b 0 = false := by unfold carry; simp [Nat.mod_one]
theorem carry_plain {P x y ba bb : Nat} (hx : x < P) (hy : y < P) (ha : ba < 2) (hb : bb < 2) : (2 * P ≤ (x + P * ba) + (y + P * bb)) ↔ 2 ≤ ba + bb + (if P ≤ x + y then 1 else 0) := by
  have h1 : ba = 0 ∨ ba = 1 := by omega
  have h2 : bb = 0 ∨ bb = 1 := by omega
  rcases h1 with rfl | rfl <;> rcases h2 with rfl | rfl <;> split <;> omega
def nat01 (b : Bool) : Nat := if b = true then 1 else 0
theorem nat01_testBit (a k : Nat) : nat01 (a.testBit k) = a / 2 ^ k % 2 := by
  unfold nat01
  rw [Nat.testBit_eq_decide_div_mod_eq]
  have h := Nat.mod_lt (a / 2 ^ k) (show 0 < 2 by decide)
  by_cases e : a / 2 ^ k % 2 = 1
  · simp [e]
  · have : a / 2 ^ k % 2 = 0 := by omega
    simp [this]
theorem carry_succ (a b k : Nat) : carry a b (k + 1) = decide (2 ≤ nat01 (a.testBit k) + nat01 (b.testBit k) + nat01 (carry a b k)) := by
  have h := carry_plain (Nat.mod_lt a (Nat.two_pow_pos k)) (Nat.mod_lt b (Nat.two_pow_pos k)) (Nat.mod_lt (a / 2 ^ k) (show 0 < 2 by decide)) (Nat.mod_lt (b / 2 ^ k) (show 0 < 2 by decide))
  rw [nat01_testBit, nat01_testBit]
  unfold carry
  rw [Nat.mod_pow_succ, Nat.mod_pow_succ, Nat.pow_succ, Nat.mul_comm (2 ^ k) 2]
  rw [Bool.eq_iff_iff]
  simp only [decide_eq_true_eq]
  rw [h]
  unfold nat01
  simp only [decide_eq_true_eq]
theorem add_bit (a b k : Nat) : (a + b).testBit k = decide ((nat01 (a.testBit k) + nat01 (b.testBit k) + nat01 (carry a b k)) % 2 = 1) := by
  rw [nat01_testBit, nat01_testBit, Nat.testBit_eq_decide_div_mod_eq, Nat.add_div (Nat.two_pow_pos k)]
  have e : (if 2 ^ k ≤ a % 2 ^ k + b % 2 ^ k then 1 else 0) = nat01 (carry a b k) := by unfold nat01 carry; simp only [decide_eq_true_eq]
  rw [e]
  generalize a / 2 ^ k = p
  generalize b / 2 ^ k = q
  generalize nat01 (carry a b k) = c
  congr 1
  rw [eq_iff_iff]
  omega
theorem bitsF_false {f : Nat → Bool} (h : ∀ j, f j = false) : f = fun _ => false := funext h
/-- A type of many cells. -/
structure RowT (ty : TypeId) (n : Nat) : Prop where
  desc : ∃ d, Try.prog.underlying ty = some d ∧ d.isRow = true
  size : (Try.prog.info? ty).map (·.size) = some n
theorem row67 : RowT 96 128 := ⟨⟨_, Try.underlying96, rfl⟩, size67⟩
theorem row72 : RowT 121 129 := ⟨⟨_, Try.underlying121, rfl⟩, by kernel_rfl⟩
theorem row77 : RowT 98 130 := ⟨⟨_, Try.underlying98, rfl⟩, by kernel_rfl⟩
def sumC (f : Nat → Bool) (ok : Bool) : List Value := bitsF f ++ [.bool ok]
theorem sumC_length (f : Nat → Bool) (ok : Bool) : (sumC f ok).length = 129 := by unfold sumC; rw [List.length_append, bitsF_length]; rfl
/-- The cells of what a division tells. -/
def parC (f : Nat → Bool) (r : Int) (ok : Bool) : List Value := bitsF f ++ [.int .u64 r, .bool ok]
theorem parC_length (f : Nat → Bool) (r : Int) (ok : Bool) : (parC f r ok).length = 130 := by unfold parC; rw [List.length_append, bitsF_length]; rfl
theorem zeros77 : Try.zeroCells98 = (parC (fun _ => false) 0 false).toArray := by rfl
theorem zeros72 : Try.zeroCells121 = (sumC (fun _ => false) false).toArray := by rfl

theorem put_cells : ∀ (cs old pre post : List Value) (k : Nat), cs.length = old.length → (cs.zipIdx k).foldl (fun (a : Array Value) (x : Value × Nat) => a.setIfInBounds (pre.length + (x.2 - k)) x.1) (pre ++ old ++ post).toArray = (pre ++ cs ++ post).toArray
  | [], old, pre, post, k, h => by
    have : old = [] := List.eq_nil_of_length_eq_zero h.symm
    subst this; simp
  | c :: cs, [], pre, post, k, h => by simp at h
  | c :: cs, o :: old, pre, post, k, h => by
    have ih := put_cells cs old (pre ++ [c]) post (k + 1) (by simpa using h)
    rw [List.zipIdx_cons, List.foldl_cons]
    have e1 : (pre ++ o :: old ++ post).toArray.setIfInBounds (pre.length + (k - k)) c = (pre ++ [c] ++ old ++ post).toArray := by
      rw [Nat.sub_self, Nat.add_zero, List.setIfInBounds_toArray]
      congr 1
      rw [List.append_assoc, List.set_append_right _ _ (Nat.le_refl _), Nat.sub_self]
      simp
    simp only at e1 ⊢
    rw [e1]
    have e2 : (pre ++ c :: cs ++ post).toArray = (pre ++ [c] ++ cs ++ post).toArray := by simp
    rw [e2, ← ih]
    have hcong : ∀ (l : List (Value × Nat)) (a : Array Value), (∀ x ∈ l, k + 1 ≤ x.2) → l.foldl (fun (a : Array Value) (x : Value × Nat) => a.setIfInBounds (pre.length + (x.2 - k)) x.1) a = l.foldl (fun (a : Array Value) (x : Value × Nat) => a.setIfInBounds ((pre ++ [c]).length + (x.2 - (k + 1))) x.1) a := by
      intro l
      induction l with
      | nil => intro a _; rfl
      | cons x l ihl =>
        intro a hx
        rw [List.foldl_cons, List.foldl_cons]
        have hx0 := hx x List.mem_cons_self
        rw [show pre.length + (x.2 - k) = (pre ++ [c]).length + (x.2 - (k + 1)) by simp; omega]
        exact ihl _ (fun y hy => hx y (List.mem_cons_of_mem _ hy))
    exact hcong _ _ (fun x hx => (List.le_snd_of_mem_zipIdx hx))
theorem fill_part {place : Nat → Option (Nat × Nat)} (pre old post cs : List Value) {i : Nat} {v : Value} {rest : List (Nat × Value)} (hv : v.cells = cs.toArray) (hp : place i = some (pre.length, cs.length)) (hl : cs.length = old.length) :
    Instr.fill place (pre ++ old ++ post).toArray ((i, v) :: rest) = Instr.fill place (pre ++ cs ++ post).toArray rest := by
  rw [Instr.fill, hp]
  have h := put_cells cs old pre post 0 hl
  have hc : ¬ ((v.cells.size ≠ cs.length || pre.length + v.cells.size > (pre ++ old ++ post).toArray.size) = true) := by
    rw [hv]; simp; omega
  have hz : cs.toArray.zipIdx = cs.zipIdx.toArray := by
    apply Array.ext
    · simp
    · intro j h1 h2; simp
  simp only [hc]
  rw [hv]
  simp only [Nat.sub_zero] at h
  rw [hz]
  simp only [Bool.false_eq_true, if_false]
  congr 1
  rw [← h]
  simp
theorem bdRow {ops : Array Oper} {rest : List Oper} {op : Oper} {a : Act} {w : World} {Q : Exit → Act → World → Prop} (hgd : op.guard = none) (t : TypeId) (ps : Array (Nat × Operand)) (ho : op.op = .build t ps)
    {cells : List Value} (hb : Try.prog.built t (ps.map fun (i, x) => (i, a.eval x)).toList = some cells.toArray) (h : wpList Try.prog ops Q rest (a.put op.dst (.agg cells.toArray)) w) : wpList Try.prog ops Q (op :: rest) a w :=
  wpList_plain hgd fun _ hK => by
    unfold Oper.wp execOp
    simp only [ho, Sem.run_bind, run_build w t _ _ hb, Result.andThen_ok, Sem.run_pure]
    exact hK _ _ h
theorem bdRow2 {ops : Array Oper} {rest : List Oper} {op : Oper} {a : Act} {w : World} {Q : Exit → Act → World → Prop} (hgd : op.guard = none) (t : TypeId) (i0 : Nat) (x0 : Operand) (i1 : Nat) (x1 : Operand) (ho : op.op = .build t #[(i0, x0), (i1, x1)])
    {cells : List Value} {v0 v1 : Value} (e0 : a.eval x0 = v0) (e1 : a.eval x1 = v1) (hb : Try.prog.built t [(i0, v0), (i1, v1)] = some cells.toArray) (h : wpList Try.prog ops Q rest (a.put op.dst (.agg cells.toArray)) w) : wpList Try.prog ops Q (op :: rest) a w :=
  bdRow hgd t _ ho (by rw [← e0, ← e1] at hb; simpa using hb) h
theorem bdRow3 {ops : Array Oper} {rest : List Oper} {op : Oper} {a : Act} {w : World} {Q : Exit → Act → World → Prop} (hgd : op.guard = none) (t : TypeId) (i0 : Nat) (x0 : Operand) (i1 : Nat) (x1 : Operand) (i2 : Nat) (x2 : Operand) (ho : op.op = .build t #[(i0, x0), (i1, x1), (i2, x2)])
    {cells : List Value} {v0 v1 v2 : Value} (e0 : a.eval x0 = v0) (e1 : a.eval x1 = v1) (e2 : a.eval x2 = v2) (hb : Try.prog.built t [(i0, v0), (i1, v1), (i2, v2)] = some cells.toArray) (h : wpList Try.prog ops Q rest (a.put op.dst (.agg cells.toArray)) w) : wpList Try.prog ops Q (op :: rest) a w :=
  bdRow hgd t _ ho (by rw [← e0, ← e1, ← e2] at hb; simpa using hb) h
theorem built72 (f : Nat → Bool) (ok : Bool) : Try.prog.built 121 [(0, .agg (bitsF f).toArray), (1, .bool ok)] = some (sumC f ok).toArray := by
  have h : ∀ parts, Try.prog.built 121 parts = Instr.fill (fun i => #[(0, 128), (128, 1)][i]?) Try.zeroCells121 parts := fun parts => by kernel_rfl
  rw [h, zeros72]
  have e1 := fill_part (place := fun i => #[(0, 128), (128, 1)][i]?) [] (bitsF fun _ => false) [.bool false] (bitsF f) (i := 0) (v := .agg (bitsF f).toArray) (rest := [(1, .bool ok)]) rfl (by rw [bitsF_length]; rfl) (by rw [bitsF_length, bitsF_length])
  have e2 := fill_part (place := fun i => #[(0, 128), (128, 1)][i]?) (bitsF f) [.bool false] [] [.bool ok] (i := 1) (v := .bool ok) (rest := []) rfl (by rw [bitsF_length]; rfl) rfl
  rw [List.nil_append, List.nil_append] at e1
  rw [List.append_nil, List.append_nil] at e2
  unfold sumC
  rw [e1, e2]; rfl

theorem stRow {ty : TypeId} {n : Nat} (R : RowT ty n) {ops : Array Oper} {rest : List Oper} {op : Oper} {a : Act} {w : World} {Q : Exit → Act → World → Prop} {vs : List Value} (hgd : op.guard = none) (x y : Operand) (ho : op.op = .store ty x y)
    {b : Nat} {cs : List Value} {t : TypeId} (hb : Blk w b cs t) (hc : cs.length = n) (hv : vs.length = n) (h1 : ∀ v ∈ vs, v.oneCell' = true) (hx : a.eval x = .pointer (some ⟨b, 0, none⟩)) (hy : a.eval y = .agg vs.toArray) (h : wpList Try.prog ops Q rest (a.put op.dst undef) (w.setCells b 0 vs)) : wpList Try.prog ops Q (op :: rest) a w :=
  wpList_store_mid hgd _ x y ho b 0 _ hx hy (by have := hb.there; rw [hc] at this; rw [List.size_toArray, hv]; exact this) (by rw [List.size_toArray, hv]; exact R.size) (all_oneCell_toArray h1) h
theorem ret_cellRow {ty : TypeId} {n : Nat} (R : RowT ty n) {fn : Func} {p : Tmp} (hf : fn.results = #[.cell p ty]) {tmps : Array Value} {w : World} {b : Nat} {cs : List Value} {t : TypeId} (hl : cs.length = n) (hp : tmps.getD p undef = .pointer (some ⟨b, 0, none⟩)) (h : Blk w b cs t) :
    (results fn tmps).run Try.prog w = .ok (.agg cs.toArray) w := by
  obtain ⟨d, hu, hd⟩ := R.desc
  have hp' : tmps[p]?.getD undef = .pointer (some ⟨b, 0, none⟩) := by rw [← hp]; simp
  have hlv := run_loadVar_mid w b 0 _ _ _ h.range hu hd (by rw [hl]; exact R.size)
  simp only [results, hf]
  simp [hp', asAddr, hlv]
/-- What Add answers. -/
def addC (a b : Nat) : List Value := if carry a b 128 = false then sumC (a + b).testBit true else sumC (fun _ => false) false
theorem sumC_one (f : Nat → Bool) (ok : Bool) : ∀ v ∈ sumC f ok, v.oneCell' = true := by
  intro v hv
  rcases List.mem_append.1 hv with h | h
  · exact bitsF_one f v h
  · simp at h; subst h; rfl

set_option maxRecDepth 100000 in
set_option maxHeartbeats 2000000 in
theorem refAdd_num (a b : Nat) (w : World) : Calls Try.prog 84 #[.agg (nmC a).toArray, .agg (nmC b).toArray] w
    fun e w' => e = .returned (.agg (addC a b).toArray) ∧ Kp w w' := by
  go_enter Try.func84, Try.ntmps84
  go_wp2_with fail
  rw [zeros67, zeros72]
  go_loopw [6, 7] (fun v6 v7 wr => ∃ k : Nat, k ≤ 128 ∧ v7 = .int .i64 k ∧ v6 = .bool (carry a b k) ∧ Blk wr w.heap.size (nmC a) 96 ∧ Blk wr (w.heap.size + 1) (nmC b) 96 ∧ Blk wr (w.heap.size + 1 + 1) (sumC (fun _ => false) false) 121 ∧ Blk wr (w.heap.size + 1 + 1 + 1) (bitsF (lowF (a + b).testBit k)) 96 ∧ Kp w wr) (fun _ v7 _ => 128 - (intOf v7).toNat)
  case atStart => exact ⟨0, by omega, rfl, by rw [carry_zero], (by (repeat (first | with_reducible assumption | ((with_reducible refine Blk.newL ?_ ?_); (focus (first | (simp; done) | omega)); rfl) | with_reducible refine Blk.drew ?_ | with_reducible refine Blk.drewN ?_ _ | with_reducible refine Blk.alloc ?_ _ | ((with_reducible refine Blk.other ?_ ?_ _); rotate_left; (focus (first | with_reducible assumption | omega | (simp; done) | (simp; omega))))))), (by (repeat (first | with_reducible assumption | ((with_reducible refine Blk.newL ?_ ?_); (focus (first | (simp; done) | omega)); rfl) | with_reducible refine Blk.drew ?_ | with_reducible refine Blk.drewN ?_ _ | with_reducible refine Blk.alloc ?_ _ | ((with_reducible refine Blk.other ?_ ?_ _); rotate_left; (focus (first | with_reducible assumption | omega | (simp; done) | (simp; omega))))))), (by (repeat (first | with_reducible assumption | ((with_reducible refine Blk.newL ?_ ?_); (focus (first | (simp; done) | omega)); rfl) | with_reducible refine Blk.drew ?_ | with_reducible refine Blk.drewN ?_ _ | with_reducible refine Blk.alloc ?_ _ | ((with_reducible refine Blk.other ?_ ?_ _); rotate_left; (focus (first | with_reducible assumption | omega | (simp; done) | (simp; omega))))))), by rw [← lowF_zero]; exact (by (repeat (first | with_reducible assumption | ((with_reducible refine Blk.newL ?_ ?_); (focus (first | (simp; done) | omega)); rfl) | with_reducible refine Blk.drew ?_ | with_reducible refine Blk.drewN ?_ _ | with_reducible refine Blk.alloc ?_ _ | ((with_reducible refine Blk.other ?_ ?_ _); rotate_left; (focus (first | with_reducible assumption | omega | (simp; done) | (simp; omega))))))), (by (repeat (first | with_reducible assumption | with_reducible exact Kp.refl _ | with_reducible refine Kp.drew ?_ | with_reducible refine Kp.drewN ?_ _ | with_reducible refine Kp.alloc ?_ _ | ((with_reducible refine Kp.setCell ?_ ?_ _); rotate_left; (focus (first | omega | (simp; done) | (simp; omega)))) | with_reducible refine Kp.trans ?_ (by assumption))))⟩
  case round =>
    obtain ⟨k, hk, rfl, rfl, xa, xb, xs, xo, xk⟩ := hrel
    by_cases hlt : k < 128
    · have c0 := xa.bool k hlt
      have c1 := xb.bool k hlt
      have f0 := xo.free k
      have c2 := xo.bool k hlt
      have hs := carry_succ a b k
      have hb := add_bit a b k
      cases hc : carry a b k
      all_goals
        cases hp : a.testBit k
        all_goals
          cases hq : b.testBit k
          all_goals
            rw [hp] at c0 hs hb
            rw [hq] at c1 hs hb
            rw [hc] at hs hb
            have HS := Lib.hid hs
            have HB := Lib.hid hb
            clear hs hb hp hq hc
            go_wp2
            go_roundw
            case rel =>
              refine ⟨k + 1, by omega, by go_num, ?_, (by (repeat (first | with_reducible assumption | ((with_reducible refine Blk.newL ?_ ?_); (focus (first | (simp; done) | omega)); rfl) | with_reducible refine Blk.drew ?_ | with_reducible refine Blk.drewN ?_ _ | with_reducible refine Blk.alloc ?_ _ | ((with_reducible refine Blk.other ?_ ?_ _); rotate_left; (focus (first | with_reducible assumption | omega | (simp; done) | (simp; omega))))))), (by (repeat (first | with_reducible assumption | ((with_reducible refine Blk.newL ?_ ?_); (focus (first | (simp; done) | omega)); rfl) | with_reducible refine Blk.drew ?_ | with_reducible refine Blk.drewN ?_ _ | with_reducible refine Blk.alloc ?_ _ | ((with_reducible refine Blk.other ?_ ?_ _); rotate_left; (focus (first | with_reducible assumption | omega | (simp; done) | (simp; omega))))))), (by (repeat (first | with_reducible assumption | ((with_reducible refine Blk.newL ?_ ?_); (focus (first | (simp; done) | omega)); rfl) | with_reducible refine Blk.drew ?_ | with_reducible refine Blk.drewN ?_ _ | with_reducible refine Blk.alloc ?_ _ | ((with_reducible refine Blk.other ?_ ?_ _); rotate_left; (focus (first | with_reducible assumption | omega | (simp; done) | (simp; omega))))))), ?_, (by (repeat (first | with_reducible assumption | with_reducible exact Kp.refl _ | with_reducible refine Kp.drew ?_ | with_reducible refine Kp.drewN ?_ _ | with_reducible refine Kp.alloc ?_ _ | ((with_reducible refine Kp.setCell ?_ ?_ _); rotate_left; (focus (first | omega | (simp; done) | (simp; omega)))) | with_reducible refine Kp.trans ?_ (by assumption))))⟩
              · rw [HS.out]; rfl
              · rw [← lowF_succ, ← bitsF_set, HB.out]; exact xo.set k _
            case measure => simp [intOf]; omega
    · obtain rfl : k = 128 := by omega
      cases hc : carry a b 128 with
      | true =>
        have hv : addC a b = sumC (fun _ => false) false := by unfold addC; rw [hc]; rfl
        go_wp2_with ((refine stRow row72 (vs := (sumC (fun _ => false) false)) ?gd (.tmp 4) (.tmp 37) ?ho xs ?hc ?hv ?h1 ?hx ?hy ?_; (case gd => rfl); (case ho => rfl); (case hx => rfl); (case hy => first | rfl | (exact congrArg Value.agg zeros72) | (exact congrArg Value.agg zeros77)); (case hc => first | exact sumC_length _ _ | exact parC_length _ _ _ | exact bitsF_length _); (case hv => first | exact sumC_length _ _ | exact parC_length _ _ _ | exact bitsF_length _); (case h1 => exact (sumC_one _ _))); refine Hid.out ?_)
        refine Lib.hid (end_ret2 (by assumption) ?_)
        refine ret_blk (xs.all (by rw [sumC_length])) ?hr ?hd ?_; (case hr => intro wz bz; exact ret_cellRow row72 Try.results84 (by first | exact sumC_length _ _ | exact parC_length _ _ _ | exact bitsF_length _) rfl bz); (case hd => rfl)
        exact ⟨by rw [hv], (by (repeat (first | with_reducible assumption | with_reducible exact Kp.refl _ | with_reducible refine Kp.drew ?_ | with_reducible refine Kp.drewN ?_ _ | with_reducible refine Kp.alloc ?_ _ | ((with_reducible refine Kp.setCell ?_ ?_ _); rotate_left; (focus (first | omega | (simp; done) | (simp; omega)))) | ((with_reducible refine Kp.setCells ?_ _ _ _ ?_); (focus (first | omega | (simp; done) | (simp; omega)))) | with_reducible refine Kp.trans ?_ (by assumption))))⟩
      | false =>
        have hv : addC a b = sumC (lowF (a + b).testBit 128) true := by
          unfold addC; rw [hc]
          unfold sumC
          rw [if_pos rfl, bitsF_congr (f := (a + b).testBit) (g := lowF (a + b).testBit 128) (fun j hj => by unfold lowF; simp [hj])]
        have he := built72 (lowF (a + b).testBit 128) true
        go_wp2_with ((refine ld67 ?gd (.tmp 5) ?ho xo ?hx ?_; (case gd => rfl); (case ho => rfl); (case hx => rfl)); (refine bdRow2 (cells := (sumC (lowF (a + b).testBit 128) true)) ?gd 121 0 (.tmp 38) 1 (.const (.bool true)) ?ho ?e0 ?e1 he ?_; (case gd => rfl); (case ho => rfl); (case e0 => rfl); (case e1 => rfl)); (refine stRow row72 (vs := (sumC (lowF (a + b).testBit 128) true)) ?gd (.tmp 4) (.tmp 39) ?ho xs ?hc ?hv ?h1 ?hx ?hy ?_; (case gd => rfl); (case ho => rfl); (case hx => rfl); (case hy => first | rfl | (exact congrArg Value.agg zeros72) | (exact congrArg Value.agg zeros77)); (case hc => first | exact sumC_length _ _ | exact parC_length _ _ _ | exact bitsF_length _); (case hv => first | exact sumC_length _ _ | exact parC_length _ _ _ | exact bitsF_length _); (case h1 => exact (sumC_one _ _))); refine Hid.out ?_)
        refine Lib.hid (end_ret (by assumption) ?_)
        refine ret_blk (xs.all (by rw [sumC_length, sumC_length])) ?hr ?hd ?_; (case hr => intro wz bz; exact ret_cellRow row72 Try.results84 (by first | exact sumC_length _ _ | exact parC_length _ _ _ | exact bitsF_length _) rfl bz); (case hd => rfl)
        exact ⟨by rw [hv], (by (repeat (first | with_reducible assumption | with_reducible exact Kp.refl _ | with_reducible refine Kp.drew ?_ | with_reducible refine Kp.drewN ?_ _ | with_reducible refine Kp.alloc ?_ _ | ((with_reducible refine Kp.setCell ?_ ?_ _); rotate_left; (focus (first | omega | (simp; done) | (simp; omega)))) | ((with_reducible refine Kp.setCells ?_ _ _ _ ?_); (focus (first | omega | (simp; done) | (simp; omega)))) | with_reducible refine Kp.trans ?_ (by assumption))))⟩
end Go.Proofs.Yteipfamaclildaa
