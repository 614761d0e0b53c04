/- A script's verbs: the map of the words of items. -/
import Derived.Test.YtaekeogaakogbaaGreatDoorJ10

import Derived.WideMake

import Derived.ChangeMaps5

namespace Go.Proofs.YtaekeogaakogbaaGreatDoor

open Go.ChangeShapes Go.WideShapes Go.ChangeAt Go.RowKit Go.Shelf

theorem run_put {P : Program} (w : World) (mty kt et : TypeId) (r clock : Nat) (es : Array MapEntry) (s : ByteArray) (val : Value) (hm : P.underlying mty = some (.map kt et)) (hk : P.underlying kt = some .string) (hb : w.heap[r]? = some (.map es clock)) (hf : Instr.findNow .string (.string s) es.toList 0 = some none) :
    (Instr.mapUpdate mty (.map (some r)) (.string s) val).run P w = .ok () { w with heap := w.heap.setIfInBounds r (.map (es.push { key := .string s, val := val, born := clock }) (clock + 1)) } := by
  have hc : (Instr.checkKey false 10000 kt (.string s)).run P w = .ok () w := MapKept.run_checkKey (k := .string s) hk (by simp [MapKept.IsKey]) false 9999
  simp [Instr.mapUpdate, run_underlying hm, MapKept.run_getObj_map hb, hc, MapKept.run_findKey hk hf, MapKept.run_setObj_map _ hb, Result.andThen]
/-- A new entry, at the operation. -/
theorem insertL {P : Program} (w : World) {ops : Array Oper} {rest : List Oper} {o : Oper} {a : Act} {Q : Exit → Act → World → Prop} (hg : o.guard = none) (m x v : Operand) (t : TypeId) (hop : o.op = Op.insert t m x v)
    (kt et : TypeId) (hm : P.underlying t = some (.map kt et)) (hk : P.underlying kt = some .string) (W : World) (kw : Kp W w) (r clock : Nat) (hr : W.heap.size ≤ r) (es : Array MapEntry) (s : ByteArray) (val : Value) (hb : w.heap[r]? = some (.map es clock)) (hem : a.eval m = .map (some r)) (hx : a.eval x = .string s) (hv : a.eval v = val)
    (hf : Instr.findNow .string (.string s) es.toList 0 = some none)
    (hK : ∀ w', w'.heap[r]? = some (.map (es.push { key := .string s, val := val, born := clock }) (clock + 1)) → Kp W w' → wpList P ops Q rest (a.put o.dst undef) w') : wpList P ops Q (o :: rest) a w := by
  refine wpList_plain hg fun K' hK' => ?_
  have hrun := run_put (P := P) w t kt et r clock es s val hm hk hb hf
  unfold Oper.wp
  simp [execOp, hop, hem, hx, hv, hrun, Result.andThen]
  refine hK' _ _ (hK _ ?_ ?_)
  · have hlt := (Array.getElem?_eq_some_iff.1 hb).1
    simp [hlt]
  · refine ⟨kw.os, kw.tape, kw.output, by simpa using kw.size, fun k hk2 => ?_⟩
    have hne : k ≠ r := by omega
    have := kw.block k hk2
    simpa [Array.getElem?_setIfInBounds, hne.symm] using this
def verbV (m : Int) (f : FuncId) : Value := .agg #[.int .i64 m, .func (Fn.func f) #[] #[]]
def ent (k : List UInt8) (m : Int) (f : FuncId) (b : Nat) : MapEntry := { key := sv k, val := verbV m f, born := b }
def verbE : Array MapEntry := #[ent kBox 2 59 0, ent kGlue 4 60 1, ent kPen 1 61 2, ent kMark 1 62 3, ent kNote (-1) 63 4, ent kFloat 3 64 5, ent kBar 0 65 6]
set_option maxRecDepth 100000 in
set_option maxHeartbeats 4000000 in
theorem verbs_any (w : World) : Calls Tryz.prog 24 #[] w fun e w' => ∃ r, e = .returned (.map (some r)) ∧ w'.heap[r]? = some (.map verbE 7) ∧ w.heap.size ≤ r ∧ Kp w w' := by
  have hmm := @run_makeMap Tryz.prog
  go_enter Tryz.func24, Tryz.ntmps24
  go_wp2_with (first
    | (refine insertL _ rfl (.tmp 1) (.const (.string ⟨#[98, 111, 120]⟩)) (.tmp 2) 81 rfl 9 79 Tryz.underlying81 Tryz.underlying9 w ((Kp.refl w).alloc (.map #[] 0)) w.heap.size 0 (Nat.le_refl _) (#[] : Array MapEntry) ⟨#[98, 111, 120]⟩ (verbV 2 59) (heap_alloc_new w (.map #[] 0)) rfl rfl rfl (by kernel_rfl) ?_; intro w1 h1 k1)
    | (refine insertL _ rfl (.tmp 1) (.const (.string ⟨#[103, 108, 117, 101]⟩)) (.tmp 3) 81 rfl 9 79 Tryz.underlying81 Tryz.underlying9 w k1 w.heap.size 1 (Nat.le_refl _) (#[ent kBox 2 59 0] : Array MapEntry) ⟨#[103, 108, 117, 101]⟩ (verbV 4 60) (show w1.heap[w.heap.size]? = some (.map (#[ent kBox 2 59 0] : Array MapEntry) 1) from h1) rfl rfl rfl (by kernel_rfl) ?_; intro w2 h2 k2)
    | (refine insertL _ rfl (.tmp 1) (.const (.string ⟨#[112, 101, 110]⟩)) (.tmp 4) 81 rfl 9 79 Tryz.underlying81 Tryz.underlying9 w k2 w.heap.size 2 (Nat.le_refl _) (#[ent kBox 2 59 0, ent kGlue 4 60 1] : Array MapEntry) ⟨#[112, 101, 110]⟩ (verbV 1 61) (show w2.heap[w.heap.size]? = some (.map (#[ent kBox 2 59 0, ent kGlue 4 60 1] : Array MapEntry) 2) from h2) rfl rfl rfl (by kernel_rfl) ?_; intro w3 h3 k3)
    | (refine insertL _ rfl (.tmp 1) (.const (.string ⟨#[109, 97, 114, 107]⟩)) (.tmp 5) 81 rfl 9 79 Tryz.underlying81 Tryz.underlying9 w k3 w.heap.size 3 (Nat.le_refl _) (#[ent kBox 2 59 0, ent kGlue 4 60 1, ent kPen 1 61 2] : Array MapEntry) ⟨#[109, 97, 114, 107]⟩ (verbV 1 62) (show w3.heap[w.heap.size]? = some (.map (#[ent kBox 2 59 0, ent kGlue 4 60 1, ent kPen 1 61 2] : Array MapEntry) 3) from h3) rfl rfl rfl (by kernel_rfl) ?_; intro w4 h4 k4)
    | (refine insertL _ rfl (.tmp 1) (.const (.string ⟨#[110, 111, 116, 101]⟩)) (.tmp 6) 81 rfl 9 79 Tryz.underlying81 Tryz.underlying9 w k4 w.heap.size 4 (Nat.le_refl _) (#[ent kBox 2 59 0, ent kGlue 4 60 1, ent kPen 1 61 2, ent kMark 1 62 3] : Array MapEntry) ⟨#[110, 111, 116, 101]⟩ (verbV (-1) 63) (show w4.heap[w.heap.size]? = some (.map (#[ent kBox 2 59 0, ent kGlue 4 60 1, ent kPen 1 61 2, ent kMark 1 62 3] : Array MapEntry) 4) from h4) rfl rfl rfl (by kernel_rfl) ?_; intro w5 h5 k5)
    | (refine insertL _ rfl (.tmp 1) (.const (.string ⟨#[102, 108, 111, 97, 116]⟩)) (.tmp 7) 81 rfl 9 79 Tryz.underlying81 Tryz.underlying9 w k5 w.heap.size 5 (Nat.le_refl _) (#[ent kBox 2 59 0, ent kGlue 4 60 1, ent kPen 1 61 2, ent kMark 1 62 3, ent kNote (-1) 63 4] : Array MapEntry) ⟨#[102, 108, 111, 97, 116]⟩ (verbV 3 64) (show w5.heap[w.heap.size]? = some (.map (#[ent kBox 2 59 0, ent kGlue 4 60 1, ent kPen 1 61 2, ent kMark 1 62 3, ent kNote (-1) 63 4] : Array MapEntry) 5) from h5) rfl rfl rfl (by kernel_rfl) ?_; intro w6 h6 k6)
    | (refine insertL _ rfl (.tmp 1) (.const (.string ⟨#[98, 97, 114, 114, 105, 101, 114]⟩)) (.tmp 8) 81 rfl 9 79 Tryz.underlying81 Tryz.underlying9 w k6 w.heap.size 6 (Nat.le_refl _) (#[ent kBox 2 59 0, ent kGlue 4 60 1, ent kPen 1 61 2, ent kMark 1 62 3, ent kNote (-1) 63 4, ent kFloat 3 64 5] : Array MapEntry) ⟨#[98, 97, 114, 114, 105, 101, 114]⟩ (verbV 0 65) (show w6.heap[w.heap.size]? = some (.map (#[ent kBox 2 59 0, ent kGlue 4 60 1, ent kPen 1 61 2, ent kMark 1 62 3, ent kNote (-1) 63 4, ent kFloat 3 64 5] : Array MapEntry) 6) from h6) rfl rfl rfl (by kernel_rfl) ?_; intro w7 h7 k7))
  (try go_ret)
  exact ⟨w.heap.size, rfl, h7, Nat.le_refl _, k7⟩
end Go.Proofs.YtaekeogaakogbaaGreatDoor
