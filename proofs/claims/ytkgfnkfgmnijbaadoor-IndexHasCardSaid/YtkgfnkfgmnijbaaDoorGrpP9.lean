/- Groups of pages: what stands at a mark, plain. A range over a function whose body writes a map. -/
import Derived.Test.YtkgfnkfgmnijbaaDoorGrp9

namespace Go.Proofs.YtkgfnkfgmnijbaaDoor

open Go.RowKit Go.Shelf

/-- The pages that have a mark n; Ls: the marks, page by page. -/
def grpF (Ls : List (List Int)) (n : Int) : List Int := ((List.range Ls.length).filter fun i => decide (n ∈ Ls.getD i [])).map fun i => ((i : Nat) : Int)
theorem grpF_nil : grpF [] = fun _ => [] := rfl
theorem grpF_snoc (Ls : List (List Int)) (m : List Int) (n : Int) : grpF (Ls ++ [m]) n = grpF Ls n ++ if n ∈ m then [(Ls.length : Int)] else [] := by
  unfold grpF
  rw [List.length_append, List.length_singleton, List.range_succ, List.filter_append, List.map_append]
  congr 1
  · congr 1
    apply List.filter_congr
    intro i hi
    rw [List.mem_range] at hi
    rw [List.getD_eq_getElem?_getD, List.getD_eq_getElem?_getD, List.getElem?_append_left hi]
  · have e : (Ls ++ [m]).getD Ls.length [] = m := by simp [List.getD_eq_getElem?_getD]
    by_cases h : n ∈ m
    · rw [if_pos h, List.filter_cons, e, decide_eq_true h]; simp
    · rw [if_neg h, List.filter_cons, e, decide_eq_false h]; simp
theorem grpF_lt {Ls : List (List Int)} {n p : Int} (h : p ∈ grpF Ls n) : 0 ≤ p ∧ p < Ls.length := by
  unfold grpF at h
  simp only [List.mem_map, List.mem_filter, List.mem_range] at h
  obtain ⟨i, ⟨hi, _⟩, rfl⟩ := h
  omega
theorem grpF_len (Ls : List (List Int)) (n : Int) : (grpF Ls n).length ≤ Ls.length := by
  unfold grpF
  rw [List.length_map]
  exact Nat.le_trans (List.length_filter_le _ _) (by simp)
/-- .. while the marks m of one page more come, j of them having come. -/
def grpJ (Ls : List (List Int)) (m : List Int) (j : Nat) (n : Int) : List Int := grpF Ls n ++ if n ∈ m.take j then [(Ls.length : Int)] else []
theorem grpJ_zero (Ls : List (List Int)) (m : List Int) : grpJ Ls m 0 = grpF Ls := by funext n; unfold grpJ; simp
theorem grpJ_all (Ls : List (List Int)) (m : List Int) : grpJ Ls m m.length = grpF (Ls ++ [m]) := by
  funext n; unfold grpJ; rw [List.take_length, grpF_snoc]
theorem grpJ_len (Ls : List (List Int)) (m : List Int) (j : Nat) (n : Int) : (grpJ Ls m j n).length ≤ Ls.length + 1 := by
  unfold grpJ
  have := grpF_len Ls n
  rw [List.length_append]
  split <;> simp <;> omega
theorem take_snoc {α : Type} {m : List α} {j : Nat} {x : α} (hx : m[j]? = some x) : m.take (j + 1) = m.take j ++ [x] := by rw [List.take_add_one, hx]; rfl
theorem grpJ_in {Ls : List (List Int)} {m : List Int} {j : Nat} {x : Int} (hx : m[j]? = some x) (h : x ∈ m.take j) : grpJ Ls m (j + 1) = grpJ Ls m j := by
  funext n
  unfold grpJ
  rw [take_snoc hx]
  by_cases e : n = x
  · subst e; simp [h]
  · simp [e]
theorem grpJ_out {Ls : List (List Int)} {m : List Int} {j : Nat} {x : Int} (hx : m[j]? = some x) (h : x ∉ m.take j) : grpJ Ls m (j + 1) = fun n => if n = x then grpJ Ls m j x ++ [(Ls.length : Int)] else grpJ Ls m j n := by
  funext n
  unfold grpJ
  rw [take_snoc hx]
  by_cases e : n = x
  · subst e; simp [h]
  · simp [e]
theorem grpJ_last_in {Ls : List (List Int)} {m : List Int} {j : Nat} {x : Int} (h : x ∈ m.take j) : ∃ q, grpJ Ls m j x = q ++ [(Ls.length : Int)] := ⟨grpF Ls x, by unfold grpJ; rw [if_pos h]⟩
theorem grpJ_last_out {Ls : List (List Int)} {m : List Int} {j : Nat} {x : Int} (h : x ∉ m.take j) {q : List Int} {l : Int} (e : grpJ Ls m j x = q ++ [l]) : l ≠ (Ls.length : Int) := by
  have hl : l ∈ grpF Ls x := by
    have : grpJ Ls m j x = grpF Ls x := by unfold grpJ; rw [if_neg h, List.append_nil]
    rw [← this, e]; simp
  have := grpF_lt hl
  omega
/-- The index of a book: L has the marks that some page has, from the least one on, each with its pages. -/
structure IsIndex (f : Int → List Int) (L : List Ent) : Prop where
  rise : L.Pairwise fun x y => x.n < y.n
  all : ∀ n, I64 n → f n ≠ [] → ∃ x, x ∈ L ∧ x.n = n
  each : ∀ x, x ∈ L → I64 x.n ∧ f x.n ≠ [] ∧ x.s.l = f x.n
/-- A range over a function; the body may write a map that was made ahead. -/
theorem wp_rangeG {α : Type} {P : Program} {g : Operand} {ps : Array Tmp} {assign body : Code} {Q : Exit → Act → World → Prop} {a : Act} {w : World} {gf : Nat} {lb : Array Value} (hg : a.eval g = .func (.func gf) #[] lb) (eg : ∀ args w, (callFunc gf args).run P w = .ok (.enter gf args) w)
    {encs : α → Array Value} {K : Nat → Prop} {S Sp : List α → Prop} {N : Nat} {w0 : World} (hseq : SeqStopsK Fence.wide 99 P gf lb encs (CK K) S Sp N w0) (hb0 : Below w0.heap.size w0 w) (hps : ∀ x, (encs x).size = ps.size)
    (I : List α → World → Prop) (Ix : Code → List α → World → Prop) (hI : OwnFrom w.heap.size I) (hIx : ∀ c, OwnFrom w.heap.size (Ix c)) (h0 : I [] w)
    (h : ∃ a₁ : α → Act, (∀ (l : Nat) (x : α) (W : World) (K : Act → World → Prop), K (a₁ x) W →
        assign.wpIn (Fence.wide.inRound l) 98 P (Exit.then K (fun _ _ _ => False)) { tmps := (ps.zip (encs x)).foldl (fun t (p, v) => t.setIfInBounds p v) a.tmps, defers := [] } W) ∧
      ∀ (l : Nat) (pre : List α) (x : α) (W : World), I pre W → pre.length < N → body.wpIn (Fence.wide.inRound l) 98 P (ownPostG w.heap.size (CK K) I Ix (pre ++ [x]) W) (a₁ x) W)
    (hdone : ∀ (D : Nat) (xs : List α) (W : World), w.heap.size ≤ D → S xs → I xs W → W.heap[D]? = some (.deferred (some [])) → Q .normal { a with defers := { target := .collected D, args := #[] } :: a.defers } W)
    (hstop : ∀ (D : Nat) (c : Code) (pre : List α) (W : World), w.heap.size ≤ D → Sp pre → Ix c pre W → W.heap[D]? = some (.deferred (some [])) → c.wp P Q { a with defers := { target := .collected D, args := #[] } :: a.defers } W) :
    (Code.rangeFunc g ps assign body).wp P Q a w := by
  obtain ⟨a₁, h1, h2⟩ := h
  exact wpIn_wide.1 (wpIn_rangeFunc_ownG (F := Fence.wide) (n := 100) rfl (by decide) hg trivial eg hseq (fun h k => h.trans k) CK.book hb0 hps I Ix hI hIx h0 a₁ h1 h2 hdone (fun D c pre W h1 h2 h3 h4 => wpIn_wide.2 (hstop D c pre W h1 h2 h3 h4)))
/-- A world whose blocks, all but two that are told apart, lie as they lay. -/
theorem SlOk.same {α : Type} {w w' : World} {n : Nat} {enc : α → List Value} {a : Option Addr} {len cap : Nat} {l : List α} (h : SlOk w n enc a len cap l) (hb : ∀ b off sp, a = some ⟨b, off, sp⟩ → b < w.heap.size → w'.heap[b]? = w.heap[b]?) (hs : w.heap.size ≤ w'.heap.size) : SlOk w' n enc a len cap l := by
  obtain ⟨h1, h2, h3, h4⟩ := h
  refine ⟨h1, h2, h3, ?_⟩
  rcases h4 with h4 | ⟨b, off, ha, hlt, hr⟩
  · exact .inl h4
  · exact .inr ⟨b, off, ha, Nat.lt_of_lt_of_le hlt hs, fun i x hx j v hv => (cell_heap (p := ⟨b, off + i * n + j, none⟩) (hb b off none ha hlt)).trans (hr i x hx j v hv)⟩
theorem grown_trans {a b c : World} {row : Option Nat} (h : a.grownBy b none) (k : b.grownBy c row) : a.grownBy c row :=
  ⟨k.os.trans h.os, k.tape.trans h.tape, k.output.trans h.output, Nat.le_trans h.size k.size, fun i hi hne => (k.block i (Nat.lt_of_lt_of_le hi h.size) hne).trans (h.block i hi (by simp))⟩
theorem ownsInts_kp {w w' : World} {base : Nat} {e : TypeId} {q : IntKind} {v : Value} {zs : List Int} (h : w.ownsInts base e q v zs) (k : Kp w w') : w'.ownsInts base e q v zs :=
  h.kept k.grownBy (by cases v.ownBlock <;> simp)
theorem ownsInts_row {w : World} {base : Nat} {v : Value} {zs : List Int} (h : w.ownsInts base 3 .i64 v zs) : Row w base 3 1 enc1 v zs := by
  have := h.1
  unfold Row
  rw [flat_enc1]; exact this
/-- What a round of Of holds, between two marks of its page. -/
structure InR (b0 : Nat) (items : Value) (page : Int) (w W wr : World) (No : Nat → Prop) (c : Nat) (f : Int → List Int) (ma : Option Addr) (mc : Nat) (m : List Int) : Prop where
  g : Grps wr (b0 + 6) (b0 + 1) No c f
  z0 : Blk wr b0 [items] 40
  z2 : Blk wr (b0 + 2) [.map (some (b0 + 1))] 69
  z3 : Blk wr (b0 + 3) [.int .i64 page] 3
  kp : Kp w wr
  sl : SlOk wr 1 enc1 ma m.length mc m
  kf : KeepsFrom (b0 + 6) W wr
  ck : CK (chK (b0 + 4) (b0 + 5)) W wr
  sz : W.heap.size ≤ wr.heap.size
theorem InR.kp0 {b0 : Nat} {items : Value} {page : Int} {w W wr w' : World} {No : Nat → Prop} {c : Nat} {f : Int → List Int} {ma : Option Addr} {mc : Nat} {m : List Int} (h : InR b0 items page w W wr No c f ma mc m) (k : Kp wr w') : InR b0 items page w W w' No c f ma mc m :=
  ⟨h.g.kp k, h.z0.kp k, h.z2.kp k, h.z3.kp k, h.kp.trans k, h.sl.kp k, h.kf.trans (k.others.from _), h.ck.trans k.ck, Nat.le_trans h.sz k.size⟩
theorem InR.step {b0 : Nat} {items : Value} {page : Int} {w W wr w1 w2 : World} {No : Nat → Prop} {c c' : Nat} {f f' : Int → List Int} {ma : Option Addr} {mc : Nat} {m : List Int} (h : InR b0 items page w W wr No c f ma mc m) (hw : w.heap.size ≤ b0)
    (hNo : ∀ b off sp, ma = some ⟨b, off, sp⟩ → No b ∧ b0 + 6 ≤ b) {v : Value} {zs : List Int} (hoi : wr.ownsInts (b0 + 6) 3 .i64 v zs) (hsh : ∀ g, v.ownBlock = some g → ¬ No g) (hg : wr.grownBy w1 v.ownBlock) (hg2 : w1.grownBy w2 (some (b0 + 1))) (hG : Grps w2 (b0 + 6) (b0 + 1) No c' f') :
    InR b0 items page w W w2 No c' f' ma mc m := by
  have hv : ∀ g, v.ownBlock = some g → b0 + 6 ≤ g := fun g e => (hoi.1.lt g e).1
  have hb : ∀ i, i < wr.heap.size → some i ≠ v.ownBlock → i ≠ b0 + 1 → w2.heap[i]? = wr.heap[i]? := fun i hi h1 h2 =>
    (hg2.block i (Nat.lt_of_lt_of_le hi hg.size) (fun e => h2 (by cases e; rfl))).trans (hg.block i hi h1)
  have hs : wr.heap.size ≤ w2.heap.size := Nat.le_trans hg.size hg2.size
  have low : ∀ i, i < b0 + 6 → some i ≠ v.ownBlock := fun i hi e => by have := hv i e.symm; omega
  refine ⟨hG, h.z0.heapEq (hb _ h.z0.lt (low _ (by omega)) (by omega)), h.z2.heapEq (hb _ h.z2.lt (low _ (by omega)) (by omega)), h.z3.heapEq (hb _ h.z3.lt (low _ (by omega)) (by omega)), ?_, ?_, ?_, ?_, Nat.le_trans h.sz hs⟩
  · exact (Below.grown h.kp hg h.kp.size (fun j e => by have := hv j e; omega)).grown hg2 (Nat.le_trans h.kp.size hg.size) (fun j e => by cases e; omega)
  · exact h.sl.same (fun b off sp e hb' => by
      obtain ⟨q1, q2⟩ := hNo b off sp e
      exact hb b hb' (fun e' => hsh b e'.symm q1) (by omega)) hs
  · refine h.kf.trans ((KeepsOthers.from (KeepsOthers.of_grownBy hg (fun j o e ho => ?_)) _).trans (KeepsFrom.of_grownBy hg2 (fun j e => by cases e; omega)))
    rcases hoi.1.2 with ⟨hv', _⟩ | ⟨g', cap, cur, hv', _, hh, _⟩
    · rw [hv'] at e; cases e
    · rw [hv'] at e
      obtain rfl : g' = j := by simpa [Value.ownBlock] using e
      rw [hh] at ho; cases ho; rfl
  · refine h.ck.trans (fun p x hp hx => (cell_heap ?_).trans hx)
    have hlt := World.block_lt_of_cell? wr p hx
    exact hb p.block hlt (low _ (by rcases hp with e | e <;> omega)) (by rcases hp with e | e <;> omega)
theorem InR.low {b0 : Nat} {items : Value} {page : Int} {w W wr wX w1 : World} {No : Nat → Prop} {c : Nat} {f : Int → List Int} {ma : Option Addr} {mc : Nat} {m : List Int} (h : InR b0 items page w W wr No c f ma mc m)
    {v : Value} {zs : List Int} (hoi : wr.ownsInts (b0 + 6) 3 .i64 v zs) (k : Kp wr wX) (hg : wX.grownBy w1 v.ownBlock) : w1.cell? ⟨b0 + 2, 0, none⟩ = some (.map (some (b0 + 1))) ∧ w1.cell? ⟨b0 + 3, 0, none⟩ = some (.int .i64 page) := by
  have hv : ∀ g, v.ownBlock = some g → b0 + 6 ≤ g := fun g e => (hoi.1.lt g e).1
  have low : ∀ i, i < b0 + 6 → some i ≠ v.ownBlock := fun i hi e => by have := hv i e.symm; omega
  have z2 := h.z2.kp k
  have z3 := h.z3.kp k
  exact ⟨(cell_heap (p := ⟨b0 + 2, 0, none⟩) (hg.block (b0 + 2) z2.lt (low (b0 + 2) (by omega)))).trans (z2.cell 0 rfl), (cell_heap (p := ⟨b0 + 3, 0, none⟩) (hg.block (b0 + 3) z3.lt (low (b0 + 3) (by omega)))).trans (z3.cell 0 rfl)⟩
theorem low2 {b0 : Nat} {page : Int} {w1 w2 : World} (h : w1.cell? ⟨b0 + 2, 0, none⟩ = some (.map (some (b0 + 1))) ∧ w1.cell? ⟨b0 + 3, 0, none⟩ = some (.int .i64 page)) (hg : w1.grownBy w2 (some (b0 + 1))) :
    w2.cell? ⟨b0 + 2, 0, none⟩ = some (.map (some (b0 + 1))) ∧ w2.cell? ⟨b0 + 3, 0, none⟩ = some (.int .i64 page) := by
  have z2 := World.block_lt_of_cell? w1 _ h.1
  have z3 := World.block_lt_of_cell? w1 _ h.2
  exact ⟨(cell_heap (p := ⟨b0 + 2, 0, none⟩) (hg.block _ z2 (by simp))).trans h.1, (cell_heap (p := ⟨b0 + 3, 0, none⟩) (hg.block _ z3 (by simp))).trans h.2⟩
end Go.Proofs.YtkgfnkfgmnijbaaDoor
