/- Rows of many cells: a struct that is loaded, stored, handed back whole. -/
import Derived.Test.YtaekeogaakogbaaGreatDoorBlk2

import Derived.Test.YtaekeogaakogbaaGreatDoorHeld

import Derived.Deep.MidRow

namespace Go.Proofs.YtaekeogaakogbaaGreatDoor

open Go.RowKit

theorem Blk.range {w : World} {b : Nat} {cs : List Value} {t : TypeId} (h : Blk w b cs t) : w.rangeAt b 0 cs := fun j v hv => by
  rw [Nat.zero_add]; exact h.cell j hv
theorem Blk.there {w : World} {b : Nat} {cs : List Value} {t : TypeId} (h : Blk w b cs t) : w.there b 0 cs.length := fun j hj => by
  rw [Nat.zero_add]
  exact ⟨by rw [h.cell j (List.getElem?_eq_getElem hj)]; rfl, h.free j⟩
theorem Blk.setCells_at {b : Nat} {t : TypeId} : ∀ (vs : List Value) (o : Nat) (w : World) (cs : List Value), o + vs.length ≤ cs.length → Blk w b cs t → Blk (w.setCells b o vs) b (cs.take o ++ vs ++ cs.drop (o + vs.length)) t
  | [], o, w, cs, _, h => by
    have e : cs.take o ++ [] ++ cs.drop (o + ([] : List Value).length) = cs := by simp
    rw [e]; exact h
  | v :: r, o, w, cs, hl, h => by
    rw [List.length_cons] at hl
    have h2 := Blk.setCells_at r (o + 1) (w.setCell ⟨b, o, none⟩ v) (cs.set o v) (by rw [List.length_set]; omega) (h.set o v)
    have e : (cs.set o v).take (o + 1) ++ r ++ (cs.set o v).drop (o + 1 + r.length) = cs.take o ++ (v :: r) ++ cs.drop (o + (v :: r).length) := by
      have h3 : (cs.set o v).take (o + 1) = cs.take o ++ [v] := by
        rw [List.take_add_one, List.getElem?_set_self (by omega), List.take_set_of_le (Nat.le_refl o)]; rfl
      rw [h3, List.drop_set_of_lt (by omega), List.length_cons, Nat.add_assoc o 1, Nat.add_comm 1]
      simp
    rw [e] at h2
    exact h2
theorem Blk.all {w : World} {b : Nat} {cs vs : List Value} {t : TypeId} (h : Blk w b cs t) (hl : vs.length = cs.length) : Blk (w.setCells b 0 vs) b vs t := by
  have h2 := Blk.setCells_at vs 0 w cs (by omega) h
  have e : cs.take 0 ++ vs ++ cs.drop (0 + vs.length) = vs := by rw [List.take_zero, Nat.zero_add, hl, List.drop_length]; simp
  rw [e] at h2; exact h2
theorem Blk.away {b b' : Nat} {cs : List Value} {t : TypeId} (hb : b ≠ b') : ∀ (vs : List Value) (o : Nat) (w : World), Blk w b cs t → Blk (w.setCells b' o vs) b cs t
  | [], _, _, h => h
  | v :: r, o, w, h => Blk.away hb r (o + 1) (w.setCell ⟨b', o, none⟩ v) (h.other (a := ⟨b', o, none⟩) hb v)
theorem Kp.setCells {W : World} {b : Nat} (hb : W.heap.size ≤ b) : ∀ (vs : List Value) (o : Nat) (w : World), Kp W w → Kp W (w.setCells b o vs)
  | [], _, _, h => h
  | v :: r, o, w, h => Kp.setCells hb r (o + 1) (w.setCell ⟨b, o, none⟩ v) (h.setCell (p := ⟨b, o, none⟩) hb v)
/-- The end of a function behind its last region. -/
theorem end_ret {P : Program} {ops : Array Oper} {K : Act → World → Prop} {Q : Exit → Act → World → Prop} {a : Act} {w : World} (hK : ∀ a w, Code.wp P Code.ret Q a w → K a w) (h : Q .ret a w) : wpList P ops (Exit.then K Q) [] a w := hK a w (wp_ret h)
/-- A type of many cells. -/
structure RowT (ty : TypeId) (n : Nat) : Prop where
  desc : ∃ d, Tryz.prog.underlying ty = some d ∧ d.isRow = true
  size : (Tryz.prog.info? ty).map (·.size) = some n
theorem setCells_size {b : Nat} : ∀ (vs : List Value) (o : Nat) (w : World), (w.setCells b o vs).heap.size = w.heap.size
  | [], _, _ => rfl
  | v :: r, o, w => by
    rw [World.setCells, setCells_size r (o + 1)]
    show (w.heap.modify b _).size = _
    simp
theorem stRow {ty : TypeId} {n : Nat} (R : RowT ty n) {ops : Array Oper} {rest : List Oper} {op : Oper} {a : Act} {w : World} {Q : Exit → Act → World → Prop} {vs : List Value} (hgd : op.guard = none) (x y : Operand) (ho : op.op = .store ty x y)
    {b : Nat} {cs : List Value} {t : TypeId} (hb : Blk w b cs t) (hc : cs.length = n) (hv : vs.length = n) (h1 : ∀ v ∈ vs, v.oneCell' = true) (hx : a.eval x = .pointer (some ⟨b, 0, none⟩)) (hy : a.eval y = .agg vs.toArray) (h : wpList Tryz.prog ops Q rest (a.put op.dst undef) (w.setCells b 0 vs)) : wpList Tryz.prog ops Q (op :: rest) a w :=
  wpList_store_mid hgd _ x y ho b 0 _ hx hy (by have := hb.there; rw [hc] at this; rw [List.size_toArray, hv]; exact this) (by rw [List.size_toArray, hv]; exact R.size) (all_oneCell_toArray h1) h
theorem stRowW {ty : TypeId} {n : Nat} (R : RowT ty n) {ops : Array Oper} {rest : List Oper} {op : Oper} {a : Act} {w : World} {Q : Exit → Act → World → Prop} {vs : List Value} (hgd : op.guard = none) (x y : Operand) (ho : op.op = .store ty x y)
    {b : Nat} {cs : List Value} {t : TypeId} (hb : Blk w b cs t) (hc : cs.length = n) (hv : vs.length = n) (h1 : ∀ v ∈ vs, v.oneCell' = true) (hx : a.eval x = .pointer (some ⟨b, 0, none⟩)) (hy : a.eval y = .agg vs.toArray)
    (h : ∀ w', Blk w' b vs t → (∀ {b' : Nat} {cs : List Value} {t' : TypeId}, b' ≠ b → Blk w b' cs t' → Blk w' b' cs t') → (∀ {W : World}, W.heap.size ≤ b → Kp W w → Kp W w') → w'.heap.size = w.heap.size → wpList Tryz.prog ops Q rest (a.put op.dst undef) w') : wpList Tryz.prog ops Q (op :: rest) a w :=
  stRow R hgd x y ho hb hc hv h1 hx hy (h _ (hb.all (by rw [hv, hc])) (fun hne k => k.away hne _ _ _) (fun hle k => k.setCells hle _ _) (setCells_size _ _ _))
/-- A load of many cells at once, from a place within a block. -/
theorem ldRowAt {ty : TypeId} {n : Nat} (R : RowT ty n) {ops : Array Oper} {rest : List Oper} {op : Oper} {a : Act} {w : World} {Q : Exit → Act → World → Prop} {vs : List Value} (hgd : op.guard = none) (x : Operand) (ho : op.op = .load ty x)
    {b o : Nat} (hr : w.rangeAt b o vs) (hv : vs.length = n) (hx : a.eval x = .pointer (some ⟨b, o, none⟩)) (h : wpList Tryz.prog ops Q rest (a.put op.dst (.agg vs.toArray)) w) : wpList Tryz.prog ops Q (op :: rest) a w := by
  obtain ⟨d, hu, hd⟩ := R.desc
  exact wpList_load_mid hgd _ x ho b o hx _ _ hr hu hd (by rw [hv]; exact R.size) h
theorem ret_cellRow {ty : TypeId} {n : Nat} (R : RowT ty n) {fn : Func} {p : Tmp} (hf : fn.results = #[.cell p ty]) {tmps : Array Value} {w : World} {b : Nat} {cs : List Value} {t : TypeId} (hl : cs.length = n) (hp : tmps.getD p undef = .pointer (some ⟨b, 0, none⟩)) (h : Blk w b cs t) :
    (results fn tmps).run Tryz.prog w = .ok (.agg cs.toArray) w := by
  obtain ⟨d, hu, hd⟩ := R.desc
  have hp' : tmps[p]?.getD undef = .pointer (some ⟨b, 0, none⟩) := by rw [← hp]; simp
  have hlv := run_loadVar_mid w b 0 _ _ _ h.range hu hd (by rw [hl]; exact R.size)
  simp only [results, hf]
  simp [hp', asAddr, hlv]
/-- Two results: a struct in memory, and a value. -/
theorem ret_cellRow2 {ty : TypeId} {n : Nat} (R : RowT ty n) {fn : Func} {p q : Tmp} (hf : fn.results = #[.cell p ty, .tmp q]) {tmps : Array Value} {w : World} {b : Nat} {cs : List Value} {t : TypeId} (hl : cs.length = n) (hp : tmps.getD p undef = .pointer (some ⟨b, 0, none⟩)) (h : Blk w b cs t) {v : Value} (hq : tmps.getD q undef = v) :
    (results fn tmps).run Tryz.prog w = .ok (.tuple #[.agg cs.toArray, v]) w := by
  obtain ⟨d, hu, hd⟩ := R.desc
  have hp' : tmps[p]?.getD undef = .pointer (some ⟨b, 0, none⟩) := by rw [← hp]; simp
  have hq' : tmps[q]?.getD undef = v := by rw [← hq]; simp
  have hlv := run_loadVar_mid w b 0 _ _ _ h.range hu hd (by rw [hl]; exact R.size)
  simp only [results, hf]
  simp [hp', hq', asAddr, hlv]
end Go.Proofs.YtaekeogaakogbaaGreatDoor
