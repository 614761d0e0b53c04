/- A job in the world: rows of items, of notes, of floats. -/
import Derived.Test.YtaekeogaakogbaaGreatDoorJ2

namespace Go.Proofs.YtaekeogaakogbaaGreatDoor

open Go.ChangeShapes Go.WideShapes Go.ChangeAt Go.RowKit Go.Shelf

/-- A row in a block that is left alone. -/
theorem Row.stay {α : Type} {w w' : World} {base n : Nat} {e : TypeId} {enc : α → List Value} {v : Value} {l : List α} (h : Row w base e n enc v l) (hb : ∀ g, v.ownBlock = some g → w'.heap[g]? = w.heap[g]?) : Row w' base e n enc v l := by
  refine ⟨h.1, ?_⟩
  rcases h.2 with hh | ⟨g, cap, cur, rfl, hg, hgg, rest⟩
  · exact .inl hh
  · exact .inr ⟨g, cap, cur, rfl, hg, (hb g rfl).trans hgg, rest⟩
/-- The type of a row's own block. -/
theorem Row.type {α : Type} {w : World} {base n : Nat} {e : TypeId} {enc : α → List Value} {v : Value} {l : List α} (h : Row w base e n enc v l) {g : Nat} (hg : v.ownBlock = some g) : ∃ cur, w.heap[g]? = some (.cells cur e (0, 0)) := by
  rcases h.2 with ⟨hh, _⟩ | ⟨g', cap, cur, rfl, _, hgg, _⟩
  · rw [hh] at hg; cases hg
  · cases hg; exact ⟨cur, hgg⟩
theorem cell_heap {w w' : World} {g : Nat} (h : w'.heap[g]? = w.heap[g]?) (o : Nat) : w'.cell? ⟨g, o, none⟩ = w.cell? ⟨g, o, none⟩ := by simp [World.cell?, h]
theorem grown_trans {a b c : World} {row : Option Nat} (h : a.grownBy b none) (k : b.grownBy c row) : a.grownBy c row :=
  ⟨k.os.trans h.os, k.tape.trans h.tape, k.output.trans h.output, Nat.le_trans h.size k.size, fun i hi hn => (k.block i (Nat.lt_of_lt_of_le hi h.size) hn).trans (h.block i hi (by simp))⟩
/-- Append, as an operation's law: what it leaves is the same but for the row's own block. -/
theorem rowAppendX {α : Type} {o : Oper} {a : Act} {w : World} {K : Act → World → Prop} {Q : Exit → Act → World → Prop} (s x : Operand) (t : TypeId)
    (ho : o.op = .call { callee := .builtin .append, args := #[s, x], argTypes := #[t, t] }) {base : Nat} {e : TypeId} {z : Value} {n bytes : Nat} (ht : Tryz.prog.underlying t = some (.slice e))
    (hinfo : (Tryz.prog.info? e).map (fun i => (i.zero, i.size, i.bytes)) = some (some z, n, bytes)) (hzs : z.cells.size = n) (hsz : 0 < n)
    {v : Value} {l : List α} {enc : α → List Value} (hrow : Row w base e n enc v l) (hs : a.eval s = v) {y : α} (hy : (enc y).length = n) (h1 : ∀ u ∈ enc y, u.oneCell' = true) {b : Nat} {t' : TypeId} (hb : Blk w b (enc y) t')
    (hx : a.eval x = .slice (some ⟨b, 0, none⟩) 1 1) (hlen : l.length + 1 ≤ maxLen) (hbytes : (l.length + 1) * bytes ≤ 140737488355328) (hbase : base ≤ w.heap.size)
    (h : ∀ v' w', Row w' base e n enc v' (l ++ [y]) → w.grownBy w' v.ownBlock → (v'.ownBlock = v.ownBlock ∨ v'.ownBlock = some w.heap.size) → K (a.put o.dst v') w') : o.wp Tryz.prog a w K Q := by
  obtain ⟨i0, hi, hz0, hz1, hz2⟩ := info_parts hinfo
  obtain ⟨v', w', hr, h2, h3, h4, h5⟩ := run_append_own_at (P := Tryz.prog) (w := w) base t o.type e i0 z n bytes ht hi hz0 hz1 hz2 hzs hsz v l.length _ hrow ⟨b, 0, none⟩ 1 1 (enc y) (by rw [hy, Nat.one_mul])
    (fun j u hu => by
      have hadd : (⟨b, 0, none⟩ : Addr).add j = ⟨b, j, none⟩ := by unfold Addr.add; split <;> simp_all
      rw [hadd]; exact hb.cell j hu) h1 hlen hbytes hbase
  unfold Oper.wp
  simp [execOp, ho, resolve, invoke, builtin, hs, hx, hr, Result.andThen]
  refine h v' w' ?_ h3 h5
  unfold Row
  rw [List.length_append, List.flatMap_append]
  simpa using h2
theorem row_away {α : Type} {w : World} {base n : Nat} {e : TypeId} {enc : α → List Value} {v : Value} {l : List α} (h : Row w base e n enc v l) {B : Nat} {cs : List Value} {t : TypeId} (hB : Blk w B cs t) (ht : e ≠ t) (o : Nat) (u : Value) : Row (w.setCell ⟨B, o, none⟩ u) base e n enc v l :=
  h.stay fun g hg => Below.heap_setCell _ _ _ _ (fun e2 => by
    obtain ⟨cur, hc⟩ := h.type hg
    have e3 : g = B := e2
    rw [e3, hB.heap] at hc
    cases hc; exact ht rfl)
theorem blk_away {w : World} {b B : Nat} {cs ds : List Value} {t t' : TypeId} (h : Blk w b cs t) (hB : Blk w B ds t') (ht : t ≠ t') (o : Nat) (u : Value) : Blk (w.setCell ⟨B, o, none⟩ u) b cs t :=
  h.other (a := ⟨B, o, none⟩) (fun e => by
    have e' : b = B := e
    have h1 := h.heap
    rw [e', hB.heap] at h1
    cases h1; exact ht rfl) u
theorem own_ne {α : Type} {w : World} {base n : Nat} {e : TypeId} {enc : α → List Value} {v : Value} {l : List α} (h : Row w base e n enc v l) {B : Nat} {cs : List Value} {t : TypeId} (hB : Blk w B cs t) (ht : e ≠ t) : v.ownBlock ≠ some B := fun hg => by
  obtain ⟨cur, hc⟩ := h.type hg
  rw [hB.heap] at hc
  cases hc; exact ht rfl
theorem Blk.grown1 {w w' : World} {b : Nat} {cs : List Value} {t : TypeId} {r : Option Nat} (h : Blk w b cs t) (k : w.grownBy w' r) (h1 : r ≠ some b) : Blk w' b cs t := ⟨(k.block b h.lt (fun e => h1 e.symm)).trans h.heap⟩
theorem Kp.grown1 {W w w' : World} {r : Option Nat} (h : Kp W w) (k : w.grownBy w' r) (h1 : ∀ b, r = some b → W.heap.size ≤ b) : Kp W w' :=
  ⟨k.os.trans h.os, k.tape.trans h.tape, k.output.trans h.output, Nat.le_trans h.size k.size, fun i hi => (k.block i (Nat.lt_of_lt_of_le hi h.size) (fun e => by have := h1 i e.symm; omega)).trans (h.block i hi)⟩
/-- Two lists, element by element. -/
inductive All2 {α β : Type} (R : α → β → Prop) : List α → List β → Prop where
  | nil : All2 R [] []
  | snoc {l : List α} {l' : List β} {x : α} {y : β} : All2 R l l' → R x y → All2 R (l ++ [x]) (l' ++ [y])
theorem All2.imp {α β : Type} {R S : α → β → Prop} (h : ∀ x y, R x y → S x y) : ∀ {l : List α} {l' : List β}, All2 R l l' → All2 S l l'
  | _, _, .nil => .nil
  | _, _, .snoc a b => .snoc (a.imp h) (h _ _ b)
theorem All2.length {α β : Type} {R : α → β → Prop} : ∀ {l : List α} {l' : List β}, All2 R l l' → l.length = l'.length
  | _, _, .nil => rfl
  | _, _, .snoc a _ => by rw [List.length_append, List.length_append, a.length]; rfl
/-- A row whose block is one of F. -/
def RowIn {α : Type} (F : List Nat) (w : World) (base n : Nat) (e : TypeId) (enc : α → List Value) (v : Value) (l : List α) : Prop := Row w base e n enc v l ∧ ∀ b, v.ownBlock = some b → b ∈ F
/-- Nothing in F has turned. -/
def Same (F : List Nat) (w w' : World) : Prop := ∀ b, b ∈ F → w'.heap[b]? = w.heap[b]?
theorem RowIn.same {α : Type} {F F' : List Nat} {w w' : World} {base n : Nat} {e : TypeId} {enc : α → List Value} {v : Value} {l : List α} (h : RowIn F w base n e enc v l) (hs : Same F w w') (hF : ∀ b, b ∈ F → b ∈ F') : RowIn F' w' base n e enc v l :=
  ⟨h.1.stay fun b hb => hs b (h.2 b hb), fun b hb => hF b (h.2 b hb)⟩
theorem row_len {α : Type} {w : World} {base n : Nat} {e : TypeId} {enc : α → List Value} {a : Option Addr} {m c : Nat} {l : List α} (h : Row w base e n enc (.slice a m c) l) : m = l.length := by
  rcases h.2 with ⟨e1, e2⟩ | ⟨g, cap, cur, e1, _⟩
  · simp only [Value.slice.injEq] at e1
    omega
  · simp only [Value.slice.injEq] at e1
    exact e1.2.1
theorem Row.shape {α : Type} {w : World} {base n : Nat} {e : TypeId} {enc : α → List Value} {v : Value} {l : List α} (h : Row w base e n enc v l) (hl : 0 < l.length) : ∃ g cap, v = .slice (some ⟨g, 0, none⟩) l.length cap ∧ base ≤ g ∧ g < w.heap.size ∧ l.length ≤ cap ∧ cap ≤ maxLen := by
  rcases h.2 with ⟨_, h0⟩ | ⟨g, cap, cur, hv, hb, hg, hc, hm, _⟩
  · omega
  · exact ⟨g, cap, hv, hb, (Array.getElem?_eq_some_iff.1 hg).1, hc, hm⟩
theorem row_snoc_shape {α : Type} {w : World} {base n : Nat} {e : TypeId} {enc : α → List Value} {v : Value} {l : List α} {x : α} (h : Row w base e n enc v (l ++ [x])) : ∃ g c, v = .slice (some ⟨g, 0, none⟩) (l.length + 1) c := by
  obtain ⟨g, c, e1, _⟩ := h.shape (by rw [List.length_append, List.length_singleton]; omega)
  rw [List.length_append, List.length_singleton] at e1
  exact ⟨g, c, e1⟩
theorem Row.ghost {α : Type} {w : World} {base n : Nat} {e : TypeId} {enc : α → List Value} {v : Value} {l l' : List α} (h : Row w base e n enc v l) (hn : l'.length = l.length) (hf : l'.flatMap enc = l.flatMap enc) : Row w base e n enc v l' := by
  unfold Row at h ⊢
  rw [hn, hf]
  exact h
theorem Row.slok {α : Type} {w : World} {base n : Nat} {e : TypeId} {enc : α → List Value} {a : Option Addr} {m c : Nat} {l : List α} (hn : ∀ x, (enc x).length = n) (h : Row w base e n enc (.slice a m c) l) : SlOk w n enc a m c l := by
  obtain ⟨a', c', e1, h1⟩ := h.sl hn
  simp only [Value.slice.injEq] at e1
  obtain ⟨rfl, rfl, rfl⟩ := e1
  exact h1
def Itm.cells (x : Itm) : List Value := [.int .i64 x.k, .int .i64 x.h, .int .i64 x.f, .int .i64 x.s, .int .i64 x.o, .int .i64 x.r, .int .i64 x.n]
def Flt.cells (x : Flt) : List Value := [.int .i64 x.c, .int .i64 x.h, .int .i64 x.w]
/-- A note: its lines, and the penalties between them. -/
structure Nt where
  ls : SlV Int
  ps : SlV Int
def Nt.cells (x : Nt) : List Value := [.slice x.ls.a x.ls.len x.ls.cap, .slice x.ps.a x.ps.len x.ps.cap]
theorem infoItm : (Tryz.prog.info? 43).map (fun i => (i.zero, i.size, i.bytes)) = some (some (.agg #[.int .i64 0, .int .i64 0, .int .i64 0, .int .i64 0, .int .i64 0, .int .i64 0, .int .i64 0]), 7, 56) := by kernel_rfl
theorem infoNt : (Tryz.prog.info? 47).map (fun i => (i.zero, i.size, i.bytes)) = some (some (.agg #[.slice none 0 0, .slice none 0 0]), 2, 48) := by kernel_rfl
theorem infoFlt : (Tryz.prog.info? 91).map (fun i => (i.zero, i.size, i.bytes)) = some (some (.agg #[.int .i64 0, .int .i64 0, .int .i64 0]), 3, 24) := by kernel_rfl
theorem infoSp : (Tryz.prog.info? 23).map (fun i => (i.zero, i.size, i.bytes)) = some (some (.int .i64 0), 1, 8) := by kernel_rfl
theorem infoInt : (Tryz.prog.info? 3).map (fun i => (i.zero, i.size, i.bytes)) = some (some (.int .i64 0), 1, 8) := by kernel_rfl
theorem itmOne (y : Itm) : ∀ u ∈ y.cells, u.oneCell' = true := fun u hu => by
  simp only [Itm.cells, List.mem_cons, List.not_mem_nil, or_false] at hu
  rcases hu with rfl | rfl | rfl | rfl | rfl | rfl | rfl <;> rfl
theorem ntOne (y : Nt) : ∀ u ∈ y.cells, u.oneCell' = true := fun u hu => by
  simp only [Nt.cells, List.mem_cons, List.not_mem_nil, or_false] at hu
  rcases hu with rfl | rfl <;> rfl
theorem fltOne (y : Flt) : ∀ u ∈ y.cells, u.oneCell' = true := fun u hu => by
  simp only [Flt.cells, List.mem_cons, List.not_mem_nil, or_false] at hu
  rcases hu with rfl | rfl | rfl <;> rfl
/-- The types of a job's rows. -/
def Jt (t : TypeId) : Prop := t = 43 ∨ t = 47 ∨ t = 91 ∨ t = 23 ∨ t = 3
/-- A note that is left alone from now on. -/
def NtOk (F : List Nat) (w : World) (base : Nat) (y : Nt) (d : NtD) : Prop := RowIn F w base 1 23 enc1 (.slice y.ls.a y.ls.len y.ls.cap) d.lines ∧ RowIn F w base 1 3 enc1 (.slice y.ps.a y.ps.len y.ps.cap) d.pens
theorem NtOk.same {F F' : List Nat} {w w' : World} {base : Nat} {y : Nt} {d : NtD} (h : NtOk F w base y d) (hs : Same F w w') (hF : ∀ b, b ∈ F → b ∈ F') : NtOk F' w' base y d := ⟨h.1.same hs hF, h.2.same hs hF⟩
def FTy (w : World) (F : List Nat) : Prop := ∀ b, b ∈ F → b < w.heap.size ∧ ∃ cs t, w.heap[b]? = some (.cells cs t (0, 0)) ∧ (t = 23 ∨ t = 3)
theorem FTy.ne {w : World} {F : List Nat} (h : FTy w F) {b g : Nat} (hb : b ∈ F) {cs : Array Value} {t : TypeId} (hg : w.heap[g]? = some (.cells cs t (0, 0))) (h1 : t ≠ 23) (h2 : t ≠ 3) : b ≠ g := fun e => by
  obtain ⟨_, cs', t', h3, h4⟩ := h b hb
  rw [e, hg] at h3
  cases h3
  rcases h4 with h4 | h4
  · exact h1 h4
  · exact h2 h4
theorem FTy.row {α : Type} {w : World} {F : List Nat} (h : FTy w F) {base n : Nat} {e : TypeId} {enc : α → List Value} {v : Value} {l : List α} (hr : Row w base e n enc v l) (he : e = 23 ∨ e = 3) : FTy w (F ++ v.ownBlock.toList) := fun b hb => by
  rcases List.mem_append.1 hb with hb | hb
  · exact h b hb
  · have hv : v.ownBlock = some b := by simpa using hb
    obtain ⟨cs, hc⟩ := hr.type hv
    exact ⟨(hr.lt b hv).2, cs, e, hc, he⟩
theorem FTy.same {w w' : World} {F : List Nat} (h : FTy w F) (hs : Same F w w') (hz : w.heap.size ≤ w'.heap.size) : FTy w' F := fun b hb => by
  obtain ⟨h1, cs, t, h2, h3⟩ := h b hb
  exact ⟨Nat.lt_of_lt_of_le h1 hz, cs, t, (hs b hb).trans h2, h3⟩
/-- A job's rows. -/
structure JRep (w : World) (base : Nat) (iv nv fv : Value) (j : JobD) : Prop where
  items : Row w base 43 7 Itm.cells iv j.items
  notes : ∃ (F : List Nat) (ns : List Nt), Row w base 47 2 Nt.cells nv ns ∧ All2 (NtOk F w base) ns j.notes ∧ FTy w F
  floats : Row w base 91 3 Flt.cells fv j.floats
/-- The blocks of a job's types have not turned. -/
def TypedJ (w w' : World) : Prop := w.heap.size ≤ w'.heap.size ∧ ∀ (b : Nat) cs t, w.heap[b]? = some (Obj.cells cs t (0, 0)) → Jt t → w'.heap[b]? = w.heap[b]?
theorem TypedJ.row {α : Type} {w w' : World} (h : TypedJ w w') {base n : Nat} {e : TypeId} {enc : α → List Value} {v : Value} {l : List α} (hr : Row w base e n enc v l) (he : Jt e) : Row w' base e n enc v l :=
  hr.stay fun b hb => by
    obtain ⟨cs, hc⟩ := hr.type hb
    exact h.2 b cs e hc he
theorem TypedJ.same {w w' : World} (h : TypedJ w w') {F : List Nat} (hF : FTy w F) : Same F w w' := fun b hb => by
  obtain ⟨_, cs, t, hc, ht⟩ := hF b hb
  exact h.2 b cs t hc (ht.elim (fun e => .inr (.inr (.inr (.inl e)))) fun e => .inr (.inr (.inr (.inr e))))
theorem JRep.move {w w' : World} {base : Nat} {iv nv fv : Value} {j : JobD} (h : JRep w base iv nv fv j) (k : TypedJ w w') : JRep w' base iv nv fv j := by
  obtain ⟨h1, ⟨F, ns, h2, h3, h4⟩, h5⟩ := h
  have hs := k.same h4
  exact ⟨k.row h1 (.inl rfl), ⟨F, ns, k.row h2 (.inr (.inl rfl)), h3.imp fun _ _ h => h.same hs fun _ h => h, h4.same hs k.1⟩, k.row h5 (.inr (.inr (.inl rfl)))⟩
theorem TypedJ.kp {w w' : World} (k : Kp w w') : TypedJ w w' := ⟨k.size, fun b _ _ hc _ => k.block b (Array.getElem?_eq_some_iff.1 hc).1⟩
theorem TypedJ.away {w : World} {B : Nat} {cs : List Value} {t : TypeId} (hB : Blk w B cs t) (ht : ¬ Jt t) (o : Nat) (u : Value) : TypedJ w (w.setCell ⟨B, o, none⟩ u) :=
  ⟨by simp, fun b ds t' hc ht' => Below.heap_setCell _ _ _ _ fun e => by
    have e' : b = B := e
    rw [e', hB.heap] at hc
    cases hc
    exact ht ht'⟩
theorem row_apart {α β : Type} {w w' : World} {base n n' : Nat} {e e' : TypeId} {enc : α → List Value} {enc' : β → List Value} {v v' : Value} {l : List α} {l' : List β} (h : Row w base e n enc v l) (h' : Row w base e' n' enc' v' l') (he : e ≠ e') (hg : w.grownBy w' v'.ownBlock) : Row w' base e n enc v l :=
  h.stay fun b hb => hg.block b (h.lt b hb).2 fun e2 => by
    obtain ⟨c1, h1⟩ := h.type hb
    obtain ⟨c2, h2⟩ := h'.type e2.symm
    rw [h1] at h2
    cases h2
    exact he rfl
theorem same_apart {β : Type} {w w' : World} {F : List Nat} (hF : FTy w F) {base n' : Nat} {e' : TypeId} {enc' : β → List Value} {v' : Value} {l' : List β} (h' : Row w base e' n' enc' v' l') (h1 : e' ≠ 23) (h2 : e' ≠ 3) (hg : w.grownBy w' v'.ownBlock) : Same F w w' := fun b hb =>
  hg.block b (hF b hb).1 fun e2 => by
    obtain ⟨c2, hc⟩ := h'.type e2.symm
    exact hF.ne hb hc h1 h2 rfl
theorem JRep.item {w w' : World} {base : Nat} {iv iv' nv fv : Value} {j : JobD} {x : Itm} (h : JRep w base iv nv fv j) (hr : Row w' base 43 7 Itm.cells iv' (j.items ++ [x])) (hg : w.grownBy w' iv.ownBlock) : JRep w' base iv' nv fv { j with items := j.items ++ [x] } := by
  obtain ⟨h1, ⟨F, ns, h2, h3, h4⟩, h5⟩ := h
  have hs := same_apart h4 h1 (by decide) (by decide) hg
  exact ⟨hr, ⟨F, ns, row_apart h2 h1 (by decide) hg, h3.imp fun _ _ h => h.same hs fun _ h => h, h4.same hs hg.size⟩, row_apart h5 h1 (by decide) hg⟩
theorem JRep.float {w w' : World} {base : Nat} {iv nv fv fv' : Value} {j : JobD} {x : Flt} (h : JRep w base iv nv fv j) (hr : Row w' base 91 3 Flt.cells fv' (j.floats ++ [x])) (hg : w.grownBy w' fv.ownBlock) : JRep w' base iv nv fv' { j with floats := j.floats ++ [x] } := by
  obtain ⟨h1, ⟨F, ns, h2, h3, h4⟩, h5⟩ := h
  have hs := same_apart h4 h5 (by decide) (by decide) hg
  exact ⟨row_apart h1 h5 (by decide) hg, ⟨F, ns, row_apart h2 h5 (by decide) hg, h3.imp fun _ _ h => h.same hs fun _ h => h, h4.same hs hg.size⟩, hr⟩
/-- The notes' row, and what one note more makes of it. -/
theorem JRep.noteRow {w : World} {base : Nat} {iv nv fv : Value} {j : JobD} (h : JRep w base iv nv fv j) : ∃ ns : List Nt, ns.length = j.notes.length ∧ Row w base 47 2 Nt.cells nv ns ∧
    ∀ (w' : World) (nv' : Value) (y : Nt) (d : NtD), Row w base 23 1 enc1 (.slice y.ls.a y.ls.len y.ls.cap) d.lines → Row w base 3 1 enc1 (.slice y.ps.a y.ps.len y.ps.cap) d.pens → Row w' base 47 2 Nt.cells nv' (ns ++ [y]) → w.grownBy w' nv.ownBlock → JRep w' base iv nv' fv { j with notes := j.notes ++ [d] } := by
  obtain ⟨h1, ⟨F, ns, h2, h3, h4⟩, h5⟩ := h
  refine ⟨ns, h3.length, h2, fun w' nv' y d hl hp hr hg => ?_⟩
  have hG : FTy w ((F ++ (Value.slice y.ls.a y.ls.len y.ls.cap).ownBlock.toList) ++ (Value.slice y.ps.a y.ps.len y.ps.cap).ownBlock.toList) := (h4.row hl (.inl rfl)).row hp (.inr rfl)
  have hs := same_apart hG h2 (by decide) (by decide) hg
  refine ⟨row_apart h1 h2 (by decide) hg, ⟨_, ns ++ [y], hr, .snoc (h3.imp fun _ _ h => h.same (fun b hb => hs b (List.mem_append_left _ (List.mem_append_left _ hb))) fun b hb => List.mem_append_left _ (List.mem_append_left _ hb)) ⟨⟨row_apart hl h2 (by decide) hg, fun b hb => ?_⟩, ⟨row_apart hp h2 (by decide) hg, fun b hb => ?_⟩⟩, hG.same hs hg.size⟩, row_apart h5 h2 (by decide) hg⟩
  · exact List.mem_append_left _ (List.mem_append_right _ (by simpa using hb))
  · exact List.mem_append_right _ (by simpa using hb)
theorem jrep0 (w : World) (base : Nat) : JRep w base (.slice none 0 0) (.slice none 0 0) (.slice none 0 0) job0 :=
  ⟨Row.nil _ _ _ _ _, ⟨[], [], Row.nil _ _ _ _ _, .nil, fun b h => by cases h⟩, Row.nil _ _ _ _ _⟩
end Go.Proofs.YtaekeogaakogbaaGreatDoor
