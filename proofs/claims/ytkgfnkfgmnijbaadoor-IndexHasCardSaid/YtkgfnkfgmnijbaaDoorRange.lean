/- A range over a function: small words for both sides. -/
import Derived.RangeFuncNested

import Derived.RangeFuncBound

import Derived.RangeFuncCalls

import Derived.RangeFuncLeaves

import Derived.Shelf.Abstract

import Derived.Shelf.RegionOpen

import Derived.WalkKit

import Derived.OwnWalkIn

import Derived.TacticsInMore

import Derived.LoopNIn

import Derived.LoopIn

import Derived.OrdersIn

import Derived.OrdersHeld

import Derived.Test.YtkgfnkfgmnijbaaDoorRow

namespace Go.Proofs.YtkgfnkfgmnijbaaDoor

open Go.RowKit

/-- Cells of the blocks K stand as they stood. -/
def CK (K : Nat → Prop) (W W' : World) : Prop := ∀ p v, K p.block → W.cell? p = some v → W'.cell? p = some v
theorem CK.refl (K : Nat → Prop) (W : World) : CK K W W := fun _ _ _ h => h
theorem CK.trans {K : Nat → Prop} {A B C : World} (h : CK K A B) (k : CK K B C) : CK K A C := fun p v hp hv => k p v hp (h p v hp hv)
theorem CK.book {K : Nat → Prop} {w : World} (W : World) (l : Nat) (o o' : Obj) (_ : w.heap.size ≤ l) (h : W.heap[l]? = some o) (hc : o.isCells = false) (_ : o.isWalk = false) : CK K W (W.putObj l o') :=
  fun _ _ _ hv => cell_kept hv (grownBy_putObj' W l o') (fun r e => by cases e; exact ⟨o, h, hc⟩)
theorem Kp.ck {K : Nat → Prop} {W W' : World} (k : Kp W W') : CK K W W' := fun p _ _ hv => (k.cell (p := p) (World.block_lt_of_cell? W _ hv)).trans hv
/-- What is left alone below a bound. -/
theorem CK.below {K : Nat → Prop} {n : Nat} {W W' : World} (k : Below n W W') (hK : ∀ b, K b → b < n) : CK K W W' := fun p _ hp hv => (k.cell (p := p) (hK _ hp)).trans hv
/-- An iterator's invariant through a call that makes memory. -/
theorem abide {β : Type} {B : Nat} {J : β → World → Prop} (h : AbidesFrom B J) {s : β} {W W' : World} (hs : J s W) (k : Kp W W') : J s W' := h s W W' none hs k.grownBy (fun r e => by cases e)
/-- A slice that came in, its own block kept. -/
theorem SlOk.ck {α : Type} {w w' : World} {n : Nat} {enc : α → List Value} {a : Option Addr} {len cap : Nat} {l : List α} {K : Nat → Prop} (h : SlOk w n enc a len cap l) (hK : ∀ b off sp, a = some ⟨b, off, sp⟩ → K b) (k : CK K w w') (hs : w.heap.size ≤ w'.heap.size) : SlOk w' n enc a len cap l := by
  obtain ⟨h1, h2, h3, h4⟩ := h
  refine ⟨h1, h2, h3, ?_⟩
  rcases h4 with h4 | ⟨b, off, ha, hb, hr⟩
  · exact .inl h4
  · exact .inr ⟨b, off, ha, Nat.lt_of_lt_of_le hb hs, fun i x hx j v hv => k ⟨b, off + i * n + j, none⟩ v (hK b off none ha) (hr i x hx j v hv)⟩
/-- A function whose body holds a range over a function. -/
theorem calls_marks {P : Program} {f : FuncId} {fn : Func} {c : Code} {args : Array Value} {w : World} {R : Ending → World → Prop}
    (hf : P.funcs[f]? = some fn) (hb : fn.body = some c)
    (h : c.wp P (bodyPostM Fence.wide 100 P fn R) { tmps := args ++ Array.replicate (fn.ntmps - args.size) undef, defers := [] } w) : Calls P f args w R :=
  callsIn_wide.1 (callsIn_of_wp_marks (F := Fence.wide) (n := 100) hf hb trivial (wpIn_wide.2 h))
/-- The first k of n places. -/
def firsts (n k : Nat) : List (Fin n) := (List.finRange n).take k
theorem firsts_zero (n : Nat) : firsts n 0 = [] := by simp [firsts]
theorem firsts_all (n : Nat) : firsts n n = List.finRange n := by unfold firsts; exact List.take_of_length_le (by simp)
theorem firsts_length {n k : Nat} (h : k ≤ n) : (firsts n k).length = k := by unfold firsts; rw [List.length_take]; simp; omega
theorem firsts_succ {n k : Nat} (h : k < n) : firsts n (k + 1) = firsts n k ++ [⟨k, h⟩] := by
  unfold firsts
  rw [List.take_succ_eq_append_getElem (by simpa using h)]
  simp
/-- As callsIn_of_wp_marks asks: the block for deferred calls is handed over. -/
theorem take_mark {P : Program} {w : World} {D : Nat} (h : w.heap[D]? = some (.deferred (some []))) : (Instr.takeDeferred D).run P w = .ok [] (w.putObj D (.deferred none)) := run_takeDeferred h
theorem Kp.mark {W w : World} (k : Kp W w) {D : Nat} {o : Obj} (o' : Obj) (hD : W.heap.size ≤ D) (hK : w.heap[D]? = some o) : Kp W (w.putObj D o') :=
  Below.grown k (grownBy_putObj' w D o') (by have := (Array.getElem?_eq_some_iff.1 hK).1; exact k.size) (fun j e => by cases e; exact hD)
/-- What the law asks of a caller's invariant, fact by fact. -/
theorem Blk.grown {W W' : World} {row : Option Nat} {b : Nat} {cs : List Value} {t : TypeId} (h : Blk W b cs t) (hg : W.grownBy W' row) (hr : ∀ r, row = some r → ∃ o : Obj, W.heap[r]? = some o ∧ o.isCells = false) : Blk W' b cs t :=
  ⟨(hg.block b h.lt (fun e => by obtain ⟨o, ho, hc⟩ := hr b e.symm; rw [h.heap] at ho; cases ho; cases hc)).trans h.heap⟩
theorem Row.grown {α : Type} {W W' : World} {row : Option Nat} {base n : Nat} {e : TypeId} {enc : α → List Value} {v : Value} {l : List α} (h : Row W base e n enc v l) (hg : W.grownBy W' row) (hr : ∀ r, row = some r → ∃ o : Obj, W.heap[r]? = some o ∧ o.isCells = false) : Row W' base e n enc v l := by
  refine World.ownsRow.kept h hg ?_
  rcases h.2 with ⟨rfl, _⟩ | ⟨g, cap, cur, rfl, _, hgb, _⟩
  · exact .inl rfl
  · refine .inr fun e' => ?_
    obtain ⟨o, ho, hc⟩ := hr g (by simpa [Value.ownBlock] using e'.symm)
    rw [hgb] at ho; cases ho; cases hc
theorem Kp.grown2 {w W W' : World} {row : Option Nat} {B : Nat} (k : Kp w W) (hg : W.grownBy W' row) (hB : w.heap.size ≤ B) (hr : ∀ r, row = some r → B ≤ r) : Kp w W' := Below.grown k hg k.size (fun j e => Nat.le_trans hB (hr j e))
/-- A range over a function, in a function that no fence bounds. -/
theorem wp_range {α : Type} {P : Program} {g : Operand} {ps : Array Tmp} {assign body : Code} {Q : Exit → Act → World → Prop} {a : Act} {w : World} {gf : Nat} {lb : Array Value} (hg : a.eval g = .func (.func gf) #[] lb) (eg : ∀ args w, (callFunc gf args).run P w = .ok (.enter gf args) w)
    {encs : α → Array Value} {K : Nat → Prop} {S Sp : List α → Prop} {N : Nat} {w0 : World} (hseq : SeqStopsK Fence.wide 99 P gf lb encs (CK K) S Sp N w0) (hb0 : Below w0.heap.size w0 w) (hps : ∀ x, (encs x).size = ps.size)
    (I : List α → World → Prop) (Ix : Code → List α → World → Prop) (hI : OwnFrom w.heap.size I) (hIx : ∀ c, OwnFrom w.heap.size (Ix c)) (h0 : I [] w) (a₁ : α → Act)
    (hassign : ∀ (l : Nat) (x : α) (W : World) (K : Act → World → Prop), K (a₁ x) W →
      assign.wpIn (Fence.wide.inRound l) 98 P (Exit.then K (fun _ _ _ => False)) { tmps := (ps.zip (encs x)).foldl (fun t (p, v) => t.setIfInBounds p v) a.tmps, defers := [] } W)
    (hbody : ∀ (l : Nat) (pre : List α) (x : α) (W : World), I pre W → pre.length < N → body.wpIn (Fence.wide.inRound l) 98 P (ownPostK (CK K) I Ix (pre ++ [x]) W) (a₁ x) W)
    (hdone : ∀ (D : Nat) (xs : List α) (W : World), w.heap.size ≤ D → S xs → I xs W → W.heap[D]? = some (.deferred (some [])) → Q .normal { a with defers := { target := .collected D, args := #[] } :: a.defers } W)
    (hstop : ∀ (D : Nat) (c : Code) (pre : List α) (W : World), w.heap.size ≤ D → Sp pre → Ix c pre W → W.heap[D]? = some (.deferred (some [])) → c.wp P Q { a with defers := { target := .collected D, args := #[] } :: a.defers } W) :
    (Code.rangeFunc g ps assign body).wp P Q a w :=
  wpIn_wide.1 (wpIn_rangeFunc_ownF (F := Fence.wide) (n := 100) rfl (by decide) hg trivial eg hseq (fun h k => h.trans k) CK.book hb0 hps I Ix hI hIx h0 a₁ hassign hbody hdone (fun D c pre W h1 h2 h3 h4 => wpIn_wide.2 (hstop D c pre W h1 h2 h3 h4)))
/-- 'out = append(out, y)' in a round. -/
theorem rowAppendIn {F : Fence} {nn : Nat} {α : Type} {ops : Array Oper} {rest : List Oper} {o : Oper} {a : Act} {w : World} {Q : Exit → Act → World → Prop} (hgd : o.guard = none) (s x : Operand) (t : TypeId)
    (ho : o.op = .call { callee := .builtin .append, args := #[s, x], argTypes := #[t, t] }) {base : Nat} {e : TypeId} {z : Value} {n bytes : Nat} (ht : Tryd.prog.underlying t = some (.slice e))
    (hinfo : (Tryd.prog.info? e).map (fun i => (i.zero, i.size, i.bytes)) = some (some z, n, bytes)) (hzs : z.cells.size = n) (hsz : 0 < n)
    {v : Value} {l : List α} {enc : α → List Value} (hrow : Row w base e n enc v l) (hs : a.eval s = v) {y : α} (hy : (enc y).length = n) (h1 : ∀ u ∈ enc y, u.oneCell' = true) {b : Nat} {t' : TypeId} (hb : Blk w b (enc y) t')
    (hx : a.eval x = .slice (some ⟨b, 0, none⟩) 1 1) (hlen : l.length + 1 ≤ maxLen) (hbytes : (l.length + 1) * bytes ≤ 140737488355328) (hbase : base ≤ w.heap.size)
    (h : ∀ g cap w', Row w' base e n enc (.slice (some ⟨g, 0, none⟩) (l.length + 1) cap) (l ++ [y]) → (∀ b', b' < base → w'.heap[b']? = w.heap[b']?) → KeepsOthers w w' → Below base w w' →
      wpListIn F nn Tryd.prog ops Q rest (a.put o.dst (.slice (some ⟨g, 0, none⟩) (l.length + 1) cap)) w') : wpListIn F nn Tryd.prog ops Q (o :: rest) a w := by
  obtain ⟨i0, hi, hz0, hz1, hz2⟩ := info_parts hinfo
  refine wpListIn_append_own w hgd s x t ho base e i0 z n bytes ht hi hz0 hz1 hz2 hzs hsz v l.length _ hs hrow ⟨b, 0, none⟩ 1 1 (enc y) hx (by rw [hy, Nat.one_mul]) (fun j u hu => ?_) h1 hlen hbytes hbase ?_
  · have hadd : (⟨b, 0, none⟩ : Addr).add j = ⟨b, j, none⟩ := by unfold Addr.add; split <;> simp_all
    rw [hadd]; exact hb.cell j hu
  · intro v' w' hown hgrow hnil
    obtain ⟨g, cap, rfl⟩ := ownsRow_succ hown
    have hr : ∀ k, v.ownBlock = some k → base ≤ k := fun k hk => (hrow.lt k hk).1
    refine h g cap w' ?_ (fun b' hb' => hgrow.block b' (Nat.lt_of_lt_of_le hb' hbase) (fun e => by have := hr b' e.symm; omega)) (KeepsOthers.of_grownBy hgrow fun j o' ej hj => ?_) ((Below.refl base w).grown hgrow hbase hr)
    · unfold Row
      rw [List.length_append, List.flatMap_append]
      simpa using hown
    · rcases hrow.2 with ⟨rfl, _⟩ | ⟨g', cap', cur, rfl, _, hgb, _⟩
      · simp [Value.ownBlock] at ej
      · obtain rfl : g' = j := by simpa [Value.ownBlock] using ej
        rw [hgb] at hj; cases hj; rfl
theorem Row.store {α : Type} {w : World} {base n : Nat} {e : TypeId} {enc : α → List Value} {v : Value} {l : List α} (h : Row w base e n enc v l) {B : Nat} (hB : B < base) (u : Value) : Row (w.setCell ⟨B, 0, none⟩ u) base e n enc v l :=
  World.ownsRow.kept h (grownBy_setCell' w B u) (.inr (fun e => by have := (h.lt B e).1; omega))
/-- The same; the frame behind the assignment to the loop's variables is found by the walk ('apply Exists.intro'). -/
theorem wp_rangeE {α : Type} {P : Program} {g : Operand} {ps : Array Tmp} {assign body : Code} {Q : Exit → Act → World → Prop} {a : Act} {w : World} {gf : Nat} {lb : Array Value} (hg : a.eval g = .func (.func gf) #[] lb) (eg : ∀ args w, (callFunc gf args).run P w = .ok (.enter gf args) w)
    {encs : α → Array Value} {K : Nat → Prop} {S Sp : List α → Prop} {N : Nat} {w0 : World} (hseq : SeqStopsK Fence.wide 99 P gf lb encs (CK K) S Sp N w0) (hb0 : Below w0.heap.size w0 w) (hps : ∀ x, (encs x).size = ps.size)
    (I : List α → World → Prop) (Ix : Code → List α → World → Prop) (hI : OwnFrom w.heap.size I) (hIx : ∀ c, OwnFrom w.heap.size (Ix c)) (h0 : I [] w)
    (h : ∃ a₁ : α → Act, (∀ (l : Nat) (x : α) (W : World) (K : Act → World → Prop), K (a₁ x) W →
        assign.wpIn (Fence.wide.inRound l) 98 P (Exit.then K (fun _ _ _ => False)) { tmps := (ps.zip (encs x)).foldl (fun t (p, v) => t.setIfInBounds p v) a.tmps, defers := [] } W) ∧
      ∀ (l : Nat) (pre : List α) (x : α) (W : World), I pre W → pre.length < N → body.wpIn (Fence.wide.inRound l) 98 P (ownPostK (CK K) I Ix (pre ++ [x]) W) (a₁ x) W)
    (hdone : ∀ (D : Nat) (xs : List α) (W : World), w.heap.size ≤ D → S xs → I xs W → W.heap[D]? = some (.deferred (some [])) → Q .normal { a with defers := { target := .collected D, args := #[] } :: a.defers } W)
    (hstop : ∀ (D : Nat) (c : Code) (pre : List α) (W : World), w.heap.size ≤ D → Sp pre → Ix c pre W → W.heap[D]? = some (.deferred (some [])) → c.wp P Q { a with defers := { target := .collected D, args := #[] } :: a.defers } W) :
    (Code.rangeFunc g ps assign body).wp P Q a w := by
  obtain ⟨a₁, h1, h2⟩ := h
  exact wp_range hg eg hseq hb0 hps I Ix hI hIx h0 a₁ h1 h2 hdone hstop
theorem cell_heap {W W' : World} {p : Addr} (h : W'.heap[p.block]? = W.heap[p.block]?) : W'.cell? p = W.cell? p := by simp [World.cell?, h]
theorem CK.set {K : Nat → Prop} (W : World) {B : Nat} (hK : ∀ b, K b → b ≠ B) (u : Value) : CK K W (W.setCell ⟨B, 0, none⟩ u) := fun p _ hp hv =>
  (cell_heap (Below.heap_setCell _ _ _ _ (fun e => hK _ hp (by rw [e])))).trans hv
theorem CK.alloc {K : Nat → Prop} (W : World) (o : Obj) : CK K W (W.alloc o) := Kp.ck ((Kp.refl W).alloc o)
theorem Blk.heapEq {W W' : World} {b : Nat} {cs : List Value} {t : TypeId} (h : Blk W b cs t) (e : W'.heap[b]? = W.heap[b]?) : Blk W' b cs t := ⟨e.trans h.heap⟩
/-- The blocks that an iterator over a slice reads lie below a bound. -/
theorem SlOk.block {α : Type} {w : World} {n : Nat} {enc : α → List Value} {a : Option Addr} {len cap : Nat} {l : List α} (h : SlOk w n enc a len cap l) (hl : 0 < l.length) {b off : Nat} {sp} (e : a = some ⟨b, off, sp⟩) : b < w.heap.size := by
  rcases h.2.2.2 with h4 | ⟨b', off', ha, hb, _⟩
  · rw [h4] at hl; simp at hl
  · rw [ha] at e; cases e; exact hb
/-! A region that draws its order, in a round: the plain walk serves. -/
theorem Oper.wp_round {P : Program} {l n : Nat} {o : Oper} {a : Act} {w : World} {K : Act → World → Prop} {Q : Exit → Act → World → Prop} (hnd : ∀ c, o.op ≠ .defer c) (h : o.wp P a w K Q) : o.wpIn (Fence.wide.inRound l) n P a w K Q := by
  unfold Oper.wp at h
  unfold Oper.wpIn
  refine ⟨fun _ _ => trivial, ?_⟩
  rw [Oper.semAt_plain _ _ _ hnd]
  generalize (execOp a.eval o).run P w = r at *
  have hd : (Fence.wide.inRound l).depth.isSome = true → 1 ≤ n := fun h => by cases h
  cases r with
  | ok x w' =>
    cases x <;> simp only [Oper.upon, Oper.uponIn] at h ⊢ <;>
      first
        | exact h
        | exact ⟨hd, CallsIn.inRound l (callsIn_wide.2 h)⟩
        | (refine ⟨hd, fun c cs _ => ?_⟩
           obtain ⟨v, w'', hR, hs⟩ := h c cs
           exact ⟨v, w'', hR, stepsIn_wide.2 hs⟩)
  | halt x w' => cases x <;> simp only [Oper.upon, Oper.uponIn] at h ⊢ <;> exact h
def noDefer (ops : Array Oper) : Bool := ops.all fun o => match o.op with | .defer _ => false | _ => true
theorem wpAny_round {P : Program} {md : Region.Mode} {ops : Array Oper} {Q : Exit → Act → World → Prop} {l n : Nat} (hnd : noDefer ops = true) (hQ : ¬ LetsOut Q) : ∀ (fuel : Nat) (listed : Array Bool) (a : Act) (w : World), wpAny P md ops Q fuel listed a w → wpAnyIn (Fence.wide.inRound l) n P md ops Q fuel listed a w
  | 0, _, _, _, h => h
  | fuel + 1, listed, a, w, h => by
    refine ⟨h.1, fun i hi => ?_⟩
    have hop := h.2 i hi
    unfold wpOp at hop
    unfold wpOpIn
    cases ho : ops[i]? with
    | none =>
      rw [ho] at hop
      exact wpAny_round hnd hQ fuel _ a w hop
    | some o =>
      rw [ho] at hop
      simp only at hop ⊢
      split
      · rename_i hw
        rw [if_pos hw] at hop
        rcases hop with hop | hop
        · refine Oper.wpIn_mono (fun a' w' h' => wpAny_round hnd hQ fuel _ a' w' h') (Oper.wp_round (fun c hc => ?_) hop)
          have hall := Array.all_eq_true.1 hnd
          obtain ⟨hlt, e⟩ := Array.getElem?_eq_some_iff.1 ho
          have := hall i hlt
          rw [e, hc] at this
          cases this
        · exact absurd hop.2 hQ
      · rename_i hw
        rw [if_neg hw] at hop
        exact ⟨fun _ _ => trivial, wpAny_round hnd hQ fuel _ _ w hop⟩
theorem wpIn_region_held_round {P : Program} {ops : Array Oper} {Q : Exit → Act → World → Prop} {S : World → Prop} {l n id : Nat} {a : Act} {w : World} (hm : P.follows .mixedOrders = true) (hnd : noDefer ops = true) (hQ : ¬ LetsOut Q) (hS : S w.drew)
    (h : S w.drew → wpAnyH P .any ops Q S ops.size (Array.replicate ops.size false) a w.drew) : (Code.region id ops true).wpIn (Fence.wide.inRound l) n P Q a w :=
  wpIn_region_any hm (wpAny_round hnd hQ _ _ _ _ (wpAny_of_held _ _ _ _ (h hS)))
theorem not_letsOut {α : Type} {Kp : World → World → Prop} {I : List α → World → Prop} {Ix : Code → List α → World → Prop} {xs : List α} {W : World} : ¬ LetsOut (ownPostK Kp I Ix xs W) := by
  rintro ⟨_, _, h⟩; exact h
theorem CK.setAt {K : Nat → Prop} (W : World) {p : Addr} (hK : ∀ b, K b → b ≠ p.block) (u : Value) : CK K W (W.setCell p u) := fun q _ hp hv =>
  (cell_heap (Below.heap_setCell _ _ _ _ (fun e => hK _ hp (by rw [e])))).trans hv
theorem CK.drew {K : Nat → Prop} {W W' : World} (h : CK K W W') : CK K W W'.drew := h
end Go.Proofs.YtkgfnkfgmnijbaaDoor
