/- Slices that are made: of lengths, of totals; numbers by their places. -/
import Derived.Test.YteipfamaclildaaRow

import Derived.Laws.MakeOwn

import Derived.Deep.MidRow

namespace Go.Proofs.Yteipfamaclildaa

open Go.RowKit

/-- m numbers, by their places. -/
def intsF (m : Nat) (F : Nat → Int) : List Value := (List.range m).map fun j => .int .i64 (F j)
theorem intsF_length (m : Nat) (F : Nat → Int) : (intsF m F).length = m := by simp [intsF]
theorem intsF_get (m : Nat) (F : Nat → Int) {j : Nat} (h : j < m) : (intsF m F)[j]? = some (.int .i64 (F j)) := by
  unfold intsF; rw [List.getElem?_map, List.getElem?_range h]; rfl
/-- One of them turned. -/
def upd (F : Nat → Int) (p : Nat) (v : Int) : Nat → Int := fun j => if j = p then v else F j
theorem intsF_set (m : Nat) (F : Nat → Int) (p : Nat) (v : Int) : (intsF m F).set p (.int .i64 v) = intsF m (upd F p v) := by
  unfold intsF upd
  apply List.ext_getElem
  · simp
  · intro i h1 h2
    simp only [List.getElem_set, List.getElem_map, List.getElem_range]
    by_cases e : p = i
    · subst e; simp
    · have : ¬ i = p := fun h => e h.symm
      simp [e, this]
theorem intsF_congr {m : Nat} {F G : Nat → Int} (h : ∀ j, j < m → F j = G j) : intsF m F = intsF m G := by
  unfold intsF; exact List.map_congr_left fun j hj => by rw [h j (List.mem_range.1 hj)]
theorem Blk.at {w : World} {b m : Nat} {F : Nat → Int} {t : TypeId} (h : Blk w b (intsF m F) t) (j : Nat) (hj : j < m) : w.cell? ⟨b, j, none⟩ = some (.int .i64 (F j)) := h.cell j (intsF_get m F hj)
theorem run_make_rowN {P : Program} (t e : TypeId) (i : TypeInfo) (z : Value) (ht : P.underlying t = some (.slice e)) (hi : P.info? e = some i) (hz : i.zero = some z)
    (kl kc : IntKind) (n c : Nat) (hnc : n ≤ c) (hbytes : i.bytes * c ≤ 281474976710656) (h63 : c ≤ 9223372036854775807) (w : World) :
    (Instr.makeSlice t (.int kl (n : Int)) (.int kc (c : Int))).run P w = .ok (.slice (some ⟨w.heap.size, 0, none⟩) n c) (w.alloc (.cells (madeCells z.cells (c * i.size)) e)) := by
  have hb : (i.bytes : Int) * (c : Int) ≤ 281474976710656 := by
    have h : ((i.bytes * c : Nat) : Int) ≤ 281474976710656 := by omega
    rwa [Int.natCast_mul] at h
  have hr := run_make (P := P) w t e i z ht hi hz kl kc n c (by omega) (by omega) hb (by omega)
  simp only [Int.toNat_natCast] at hr
  exact hr
theorem infoTotal : (Try.prog.info? 31).map (fun i => (i.zero, i.size, i.bytes)) = some (some (.agg #[.int .i64 0, .int .i64 0, .int .i64 0, .int .i64 0, .int .i64 0, .int .i64 0]), 6, 48) := by kernel_rfl
theorem infoSp : (Try.prog.info? 28).map (fun i => (i.zero, i.size, i.bytes)) = some (some (.int .i64 0), 1, 8) := by kernel_rfl
theorem made_ints (zs : Array Value) (m : Nat) (hz : ∀ j, j < zs.size → zs[j]! = .int .i64 0) (h0 : 0 < zs.size) (F : Nat → Int) (hF : ∀ j, j < m → F j = 0) : madeCells zs m = (intsF m F).toArray := by
  unfold madeCells intsF
  apply Array.ext
  · simp
  · intro j h1 h2
    have hj : j < m := by simpa using h1
    simp only [Array.getElem_map, Array.getElem_range, List.getElem_toArray, List.getElem_map, List.getElem_range]
    rw [hz _ (Nat.mod_lt _ h0), hF j hj]
theorem make_tot (n : Nat) (hn : n ≤ 5000) (F : Nat → Int) (hF : ∀ j, j < n * 6 → F j = 0) (w : World) : (Instr.makeSlice 35 (.int .i64 (n : Int)) (.int .i64 (n : Int))).run Try.prog w = .ok (.slice (some ⟨w.heap.size, 0, none⟩) n n) (w.alloc (.cells (intsF (n * 6) F).toArray 31)) := by
  obtain ⟨i0, hi, hz0, hz1, hz2⟩ := info_parts infoTotal
  have h := run_make_rowN (P := Try.prog) 35 31 i0 _ Try.underlying35 hi hz0 .i64 .i64 n n (Nat.le_refl _) (by rw [hz2]; omega) (by omega) w
  rw [hz1, made_ints _ _ (fun j hj => by
    have hj' : j < 6 := hj
    have : j = 0 ∨ j = 1 ∨ j = 2 ∨ j = 3 ∨ j = 4 ∨ j = 5 := by omega
    rcases this with rfl | rfl | rfl | rfl | rfl | rfl <;> rfl) (by decide) F hF] at h
  exact h
theorem make_sp (n : Nat) (hn : n ≤ 5000) (F : Nat → Int) (hF : ∀ j, j < n → F j = 0) (w : World) : (Instr.makeSlice 49 (.int .i64 (n : Int)) (.int .i64 (n : Int))).run Try.prog w = .ok (.slice (some ⟨w.heap.size, 0, none⟩) n n) (w.alloc (.cells (intsF n F).toArray 28)) := by
  obtain ⟨i0, hi, hz0, hz1, hz2⟩ := info_parts infoSp
  have h := run_make_rowN (P := Try.prog) 49 28 i0 _ Try.underlying49 hi hz0 .i64 .i64 n n (Nat.le_refl _) (by rw [hz2]; omega) (by omega) w
  rw [hz1, made_ints _ _ (fun j hj => by
    have hj' : j < 1 := hj
    have : j = 0 := by omega
    subst this; rfl) (by decide) F (fun j hj => hF j (by omega)), Nat.mul_one] at h
  exact h

theorem Blk.rng {w : World} {b : Nat} {cs : List Value} {t : TypeId} (h : Blk w b cs t) {o : Nat} {vs : List Value} (hv : ∀ j v, vs[j]? = some v → cs[o + j]? = some v) : w.rangeAt b o vs := fun j v hj => h.cell (o + j) (hv j v hj)
theorem Blk.thr {w : World} {b : Nat} {cs : List Value} {t : TypeId} (h : Blk w b cs t) {o n : Nat} (hn : o + n ≤ cs.length) : w.there b o n := fun j hj =>
  ⟨by rw [h.cell (o + j) (List.getElem?_eq_getElem (by omega))]; rfl, h.free (o + j)⟩
theorem Blk.splice {b : Nat} {t : TypeId} : ∀ (vs : List Value) (o : Nat) (w : World) (cs : List Value), o + vs.length ≤ cs.length → Blk w b cs t → Blk (w.setCells b o vs) b (cs.take o ++ vs ++ cs.drop (o + vs.length)) t
  | [], o, w, cs, _, h => by
    have e : cs.take o ++ [] ++ cs.drop (o + ([] : List Value).length) = cs := by simp
    rw [e]; exact h
  | v :: r, o, w, cs, hl, h => by
    rw [List.length_cons] at hl
    have h2 := Blk.splice r (o + 1) (w.setCell ⟨b, o, none⟩ v) (cs.set o v) (by rw [List.length_set]; omega) (h.set o v)
    have e : (cs.set o v).take (o + 1) ++ r ++ (cs.set o v).drop (o + 1 + r.length) = cs.take o ++ (v :: r) ++ cs.drop (o + (v :: r).length) := by
      have h3 : (cs.set o v).take (o + 1) = cs.take o ++ [v] := by
        rw [List.take_add_one, List.getElem?_set_self (by omega), List.take_set_of_le (Nat.le_refl o)]; rfl
      rw [h3, List.drop_set_of_lt (by omega), List.length_cons, Nat.add_assoc o 1, Nat.add_comm 1]
      simp
    rw [e] at h2
    exact h2
theorem Blk.far {b b' : Nat} {cs : List Value} {t : TypeId} (hb : b ≠ b') : ∀ (vs : List Value) (o : Nat) (w : World), Blk w b cs t → Blk (w.setCells b' o vs) b cs t
  | [], _, _, h => h
  | v :: r, o, w, h => Blk.far hb r (o + 1) (w.setCell ⟨b', o, none⟩ v) (h.other (a := ⟨b', o, none⟩) hb v)
theorem cell_far {b' : Nat} {p : Addr} (hb : p.block ≠ b') : ∀ (vs : List Value) (o : Nat) (w : World), (w.setCells b' o vs).cell? p = w.cell? p
  | [], _, _ => rfl
  | v :: r, o, w => by
    rw [World.setCells, cell_far hb r (o + 1)]
    exact World.cell?_of_block (Below.heap_setCell w ⟨b', o, none⟩ v p.block hb)
theorem cells_size {b : Nat} : ∀ (vs : List Value) (o : Nat) (w : World), (w.setCells b o vs).heap.size = w.heap.size
  | [], _, _ => rfl
  | v :: r, o, w => by
    rw [World.setCells, cells_size r (o + 1)]
    show (w.heap.modify b _).size = _
    simp
theorem Kp.cells {W : World} {b : Nat} (hb : W.heap.size ≤ b) : ∀ (vs : List Value) (o : Nat) (w : World), Kp W w → Kp W (w.setCells b o vs)
  | [], _, _, h => h
  | v :: r, o, w, h => Kp.cells hb r (o + 1) (w.setCell ⟨b, o, none⟩ v) (h.setCell (p := ⟨b, o, none⟩) hb v)
theorem intsF_splice {m : Nat} {F G : Nat → Int} {o : Nat} {vs : List Int} (ho : o + vs.length ≤ m) (h : ∀ j, j < m → G j = if o ≤ j ∧ j < o + vs.length then vs.getD (j - o) 0 else F j) :
    (intsF m F).take o ++ vs.map (Value.int .i64) ++ (intsF m F).drop (o + (vs.map (Value.int .i64)).length) = intsF m G := by
  rw [List.length_map]
  apply List.ext_getElem?
  intro j
  rcases Nat.lt_or_ge j m with hj | hj
  · rw [intsF_get m G hj, h j hj]
    rcases Nat.lt_or_ge j o with h1 | h1
    · rw [if_neg (by omega), List.append_assoc, List.getElem?_append_left (by rw [List.length_take, intsF_length]; omega), List.getElem?_take_of_lt h1, intsF_get m F hj]
    · rcases Nat.lt_or_ge j (o + vs.length) with h2 | h2
      · rw [if_pos ⟨h1, h2⟩, List.getElem?_append_left (by rw [List.length_append, List.length_take, intsF_length, List.length_map]; omega), List.getElem?_append_right (by rw [List.length_take, intsF_length]; omega), List.length_take, intsF_length, Nat.min_eq_left (by omega), List.getElem?_map]
        rw [List.getD_eq_getElem?_getD, List.getElem?_eq_getElem (show j - o < vs.length by omega)]
        rfl
      · rw [if_neg (by omega), List.getElem?_append_right (by rw [List.length_append, List.length_take, intsF_length, List.length_map]; omega), List.getElem?_drop, List.length_append, List.length_take, intsF_length, List.length_map, Nat.min_eq_left (by omega), show o + vs.length + (j - (o + vs.length)) = j by omega, intsF_get m F hj]
  · rw [List.getElem?_eq_none (by rw [List.length_append, List.length_append, List.length_take, List.length_drop, intsF_length, List.length_map]; omega), List.getElem?_eq_none (by rw [intsF_length]; omega)]
/-- A store of a total into a row of totals. -/
theorem wpStTot {op : Oper} {a : Act} {w : World} {K : Act → World → Prop} {Q : Exit → Act → World → Prop} (x y : Operand) (ho : op.op = .store 31 x y) {b m o : Nat} {F G : Nat → Int} {t : TypeId} {v0 v1 v2 v3 v4 v5 : Int}
    (hb : Blk w b (intsF m F) t) (hm : o + 6 ≤ m) (hG : ∀ j, j < m → G j = if o ≤ j ∧ j < o + 6 then [v0, v1, v2, v3, v4, v5].getD (j - o) 0 else F j) (hx : a.eval x = .pointer (some ⟨b, o, none⟩)) (hy : a.eval y = .agg #[.int .i64 v0, .int .i64 v1, .int .i64 v2, .int .i64 v3, .int .i64 v4, .int .i64 v5])
    (h : ∀ w', Blk w' b (intsF m G) t → (∀ {b' : Nat} {cs : List Value} {t' : TypeId}, b' ≠ b → Blk w b' cs t' → Blk w' b' cs t') → (∀ p : Addr, p.block ≠ b → w'.cell? p = w.cell? p) → (∀ {W : World}, W.heap.size ≤ b → Kp W w → Kp W w') → w.heap.size = w'.heap.size → K (a.put op.dst undef) w') : op.wp Try.prog a w K Q := by
  refine wp_store_mid 31 x y ho b o #[.int .i64 v0, .int .i64 v1, .int .i64 v2, .int .i64 v3, .int .i64 v4, .int .i64 v5] hx hy (hb.thr (by rw [intsF_length]; exact hm)) (by kernel_rfl) (by simp [Value.oneCell']) ?_
  have hs := Blk.splice [.int .i64 v0, .int .i64 v1, .int .i64 v2, .int .i64 v3, .int .i64 v4, .int .i64 v5] o w (intsF m F) (by rw [intsF_length]; exact hm) hb
  rw [show (intsF m F).take o ++ [Value.int .i64 v0, .int .i64 v1, .int .i64 v2, .int .i64 v3, .int .i64 v4, .int .i64 v5] ++ (intsF m F).drop (o + [Value.int .i64 v0, .int .i64 v1, .int .i64 v2, .int .i64 v3, .int .i64 v4, .int .i64 v5].length) = intsF m G from intsF_splice (vs := [v0, v1, v2, v3, v4, v5]) hm hG] at hs
  exact h _ hs (fun hne k => k.far hne _ _ _) (fun p hp => cell_far hp _ _ _) (fun hle k => k.cells hle _ _) (cells_size _ _ _).symm
end Go.Proofs.Yteipfamaclildaa
