/- Part 1 of the proof: Small words for the walks: 'Kp W w': of what was there in W nothing has turned in w (new blocks alone). How a value of a flat type (numbers, bools, strings; arrays and structs of these) reads: each of its cells is of its kind. A block of memory that is known whole. More on a result that lies in a block. A slice of flat elements that came in: its header, what it holds as a list, how it is opened. Rows that grow by append: what they hold as a list. strings.Builder: what writes into it. How a value reads whose type holds slices within slices: each cell is of its kind, in this world. Pages that came in: lanes within pages, things within lanes. -/
import Derived.Test.YteadhacoglcbfaaDoorRows
import Derived.WalkKit
import Derived.WalkSpells
import Derived.WalkLawsBesides
import Derived.Handy
import Derived.Lib.Hide
import Derived.WalkSmall
import Derived.Laws.EntriesVeiled
import Derived.ProofKit
import Derived.OpenShut
import Derived.ShutString
import Derived.SizedLaws
import Derived.Deep.Slices
import Derived.OneCell
import Derived.Laws.AppendOwn
import Derived.OwnWalk
import Derived.Lib.Strings
import Derived.Lib.Walk
import Derived.Lib.Builder
import Derived.Lib.AppendStr
import Derived.Laws.Externs
namespace Go.Proofs.YteadhacoglcbfaaDoor

open Go.RowKit

theorem ret_int {k : IntKind} {a b : Int} (h : a = b) : Ending.returned (.int k a) = .returned (.int k b) := by rw [h]
theorem ret_bool {a b : Bool} (h : a = b) : Ending.returned (.bool a) = .returned (.bool b) := by rw [h]

/-- What was there in W is in w as it was. -/
def Kp (W w : World) : Prop := Below W.heap.size W w
theorem Kp.refl (w : World) : Kp w w := Below.refl _ _
theorem Kp.size {W w : World} (h : Kp W w) : W.heap.size ≤ w.heap.size := Below.size h
theorem Kp.trans {a b c : World} (h : Kp a b) (k : Kp b c) : Kp a c := Below.trans h (Below.mono k h.size)
theorem Kp.drew {W w : World} (h : Kp W w) : Kp W w.drew := Below.drew h
theorem Kp.drewN {W w : World} (h : Kp W w) (n : Nat) : Kp W (w.drewN n) := below_drewN h n
theorem Kp.alloc {W w : World} (h : Kp W w) (o : Obj) : Kp W (w.alloc o) := Below.alloc h h.size o
theorem Kp.setCell {W w : World} (h : Kp W w) {p : Addr} (hp : W.heap.size ≤ p.block) (u : Value) : Kp W (w.setCell p u) := Below.setCell h hp u
theorem Kp.cell {W w : World} (h : Kp W w) {p : Addr} (hp : p.block < W.heap.size) : w.cell? p = W.cell? p := Below.cell h hp
theorem Kp.grown {W w : World} (h : Kp W w) (may : MemPlace → Prop) : W.keptBut w may := Below.frame h may
end Go.Proofs.YteadhacoglcbfaaDoor
namespace Go.Proofs.YteadhacoglcbfaaDoor

open Go.ChangeShapes Go.WideShapes Go.ChangeAt Go.RowKit Go.Deep

theorem laidOut : laidOutB Tryd.prog = true := by kernel_rfl

/-- A number of 64 bits, with its sign. -/
def I64 (x : Int) : Prop := -9223372036854775808 ≤ x ∧ x ≤ 9223372036854775807

namespace Open

theorem i64_of {x : Int} (h : (Lit.int .i64 x).wf = true) : I64 x := by
  simp only [Lit.wf, Bool.and_eq_true, decide_eq_true_eq] at h; exact h
theorem bounds_i64 {x : Int} (h : (Lit.int .i64 x).wf = true) : -9223372036854775808 ≤ x ∧ x ≤ 9223372036854775807 := by
  simp only [Lit.wf, Bool.and_eq_true, decide_eq_true_eq] at h; exact h
theorem bounds_u64 {x : Int} (h : (Lit.int .u64 x).wf = true) : 0 ≤ x ∧ x ≤ 18446744073709551615 := by
  simp only [Lit.wf, Bool.and_eq_true, decide_eq_true_eq] at h; exact h

/-- The kind of a cell. -/
inductive FK where
  | int (k : IntKind)
  | bool
  | str
  | slice
def FK.ok : FK → Value → Prop
  | .int k, v => ∃ x, v = .int k x ∧ (Lit.int k x).wf = true
  | .bool, v => ∃ b, v = .bool b
  | .str, v => ∃ s : ByteArray, v = .string s ∧ s.size ≤ maxLen
  | .slice, v => ∃ a len cap, v = .slice a len cap
def allOk : List FK → List Value → Prop
  | [], [] => True
  | k :: ks, v :: vs => k.ok v ∧ allOk ks vs
  | _, _ => False
theorem allOk_append {ks ks' : List FK} {vs vs' : List Value} (h : allOk ks vs) (h' : allOk ks' vs') : allOk (ks ++ ks') (vs ++ vs') := by
  induction ks generalizing vs with
  | nil => cases vs with
    | nil => exact h'
    | cons => exact absurd h id
  | cons k ks ih => cases vs with
    | nil => exact absurd h id
    | cons v vs => exact ⟨h.1, ih h.2⟩
def flatFs (P : Program) (g : TypeId → Option (List FK)) : List Field → Nat → Option (List FK)
  | [], _ => some []
  | f :: r, o => if f.offset = o then (match g f.type with
      | some l => if P.cellsOf f.type = l.length then (flatFs P g r (o + l.length)).map (l ++ ·) else none
      | none => none) else none
def flatK (P : Program) : Nat → TypeId → Option (List FK)
  | 0, _ => none
  | n + 1, t => match P.underlying t with
    | some (.int k) => some [.int k]
    | some .bool => some [.bool]
    | some .string => some [.str]
    | some (.array m e) => (match flatK P n e with
      | some l => if P.cellsOf e = l.length ∧ P.cellsOf t = m * l.length then some (List.replicate m l).flatten else none
      | none => none)
    | some (.struct fs) => (match flatFs P (flatK P n) fs.toList 0 with
      | some l => if P.cellsOf t = l.length then some l else none
      | none => none)
    | some (.slice _) => some [.slice]
    | _ => none

/-- A struct, or an array. -/
def isAgg : Option TypeDesc → Bool
  | some (.struct _) => true
  | some (.array _ _) => true
  | _ => false

theorem chunks {l : List FK} : ∀ (m : Nat) (cs : List Value), cs.length = m * l.length → (∀ i, i < m → allOk l ((cs.drop (i * l.length)).take l.length)) → allOk (List.replicate m l).flatten cs := by
  intro m
  induction m with
  | zero => intro cs h _; have : cs = [] := List.eq_nil_of_length_eq_zero (by omega); subst this; exact trivial
  | succ m ih =>
    intro cs h hi
    have h0 := hi 0 (by omega)
    rw [Nat.zero_mul, List.drop_zero] at h0
    have h1 := ih (cs.drop l.length) (by rw [List.length_drop, h, Nat.succ_mul]; omega) (fun i him => by
      have := hi (i + 1) (by omega)
      rw [Nat.succ_mul, Nat.add_comm, ← List.drop_drop] at this
      exact this)
    have := allOk_append h0 h1
    rw [List.take_append_drop] at this
    rw [List.replicate_succ, List.flatten_cons]
    exact this

section

variable {H : Type} {enc : TypeId × Value → H} {P : Program} {w : World} {base : Nat} {spare : Nat → Bool} {held : Bool}

theorem flatFs_ok {g : TypeId → Option (List FK)} {n : Nat} (hg : ∀ t ks cs x, g t = some ks → DataW.trod enc P w base spare held n t cs = some x → allOk ks cs) :
    ∀ (fs : List Field) (o : Nat) (ks : List FK) (cs : List Value), flatFs P g fs o = some ks → cs.length = o + ks.length →
      (∀ (f : Field), f ∈ fs → ∃ x, DataW.trod enc P w base spare held n f.type ((cs.drop f.offset).take (P.cellsOf f.type)) = some x) → allOk ks (cs.drop o) := by
  intro fs
  induction fs with
  | nil =>
    intro o ks cs h hl _
    simp only [flatFs, Option.some.injEq] at h
    subst h
    have : cs.drop o = [] := by apply List.drop_eq_nil_of_le; simp at hl; omega
    rw [this]; exact trivial
  | cons f r ih =>
    intro o ks cs h hl hx
    simp only [flatFs] at h
    split at h
    next ho =>
      split at h
      next l hgl =>
        split at h
        next hc =>
          obtain ⟨ks', hk, rfl⟩ := Option.map_eq_some_iff.1 h
          have h1 := ih (o + l.length) ks' cs hk (by rw [List.length_append] at hl; omega) (fun f' hf' => hx f' (List.mem_cons_of_mem _ hf'))
          obtain ⟨x, hx0⟩ := hx f List.mem_cons_self
          have h0 := hg _ _ _ _ hgl hx0
          rw [ho, hc] at h0
          have := allOk_append h0 h1
          rw [← List.drop_drop, List.take_append_drop] at this
          exact this
        next => cases h
      next => cases h
    next => cases h
theorem flat_ok : ∀ (n : Nat) (t : TypeId) (ks : List FK) (fuel : Nat) (cs : List Value) (x : DataW H × List MemPlace), flatK P n t = some ks → DataW.trod enc P w base spare held fuel t cs = some x → allOk ks cs := by
  intro n
  induction n with
  | zero => intro t ks fuel cs x h; simp [flatK] at h
  | succ n ih =>
    intro t ks fuel cs x h hx
    simp only [flatK] at h
    split at h
    next k hu =>
      simp only [Option.some.injEq] at h; subst h
      obtain ⟨y, rfl, _, hw⟩ := DataW.trod_int hu hx
      exact ⟨⟨y, rfl, hw⟩, trivial⟩
    next hu =>
      simp only [Option.some.injEq] at h; subst h
      obtain ⟨y, rfl, _⟩ := DataW.trod_bool hu hx
      exact ⟨⟨y, rfl⟩, trivial⟩
    next hu =>
      simp only [Option.some.injEq] at h; subst h
      obtain ⟨y, rfl, _, hs⟩ := DataW.trod_string hu hx
      exact ⟨⟨y, rfl, hs⟩, trivial⟩
    next m e hu =>
      split at h
      next l hl =>
        split at h
        next hc =>
          simp only [Option.some.injEq] at h; subst h
          obtain ⟨xs, f', _, _, hcl, hxl, hxi⟩ := DataW.trod_array hu hx
          refine chunks m cs (by rw [hcl, hc.2]) (fun i hi => ?_)
          have := hxi i hi
          rw [hc.1, List.getElem?_eq_getElem (by omega)] at this
          exact ih _ _ _ _ _ hl this
        next => cases h
      next => cases h
    next fs hu =>
      split at h
      next l hl =>
        split at h
        next hc =>
          simp only [Option.some.injEq] at h; subst h
          obtain ⟨xs, f', _, _, hcl, hxl, hxi⟩ := DataW.trod_struct hu hx
          have := flatFs_ok (fun t ks cs x => ih t ks f' cs x) fs.toList 0 _ cs hl (by rw [hcl, hc]; omega) (fun f hf => by
            obtain ⟨i, hi, rfl⟩ := List.getElem_of_mem hf
            have hi' : i < fs.size := by simpa using hi
            have := hxi i fs[i] (Array.getElem?_eq_getElem hi')
            rw [List.getElem?_eq_getElem (by omega)] at this
            exact ⟨_, by simpa using this⟩)
          simpa using this
        next => cases h
      next => cases h
    next e hu =>
      simp only [Option.some.injEq] at h; subst h
      rcases open_slice hu hx with ⟨hc, _⟩ | ⟨a, len, cap, _, _, _, _, hc, _⟩
      · rw [hc]; exact ⟨⟨none, 0, 0, rfl⟩, trivial⟩
      · rw [hc]; exact ⟨⟨_, _, _, rfl⟩, trivial⟩
    next => cases h
/-- A flat struct or array by value. -/
theorem open_flat {r : Reach} {b0 : Nat} {t : TypeId} {v : Value} {d : DataW H} {p : List MemPlace} (n : Nat) {ks : List FK} (hk : flatK P n t = some ks) (ha : isAgg (P.underlying t) = true)
    (hv : Value.okWide P w r b0 t v) (h : DataW.Trod enc P w base spare held t v d p) : ∃ cs : List Value, v = .agg cs.toArray ∧ allOk ks cs := by
  obtain ⟨fuel, hf⟩ := h
  have : ∃ cs : Array Value, v = .agg cs := by
    unfold Value.okWide at hv
    split at hv
    · obtain ⟨cs, e, _⟩ := hv; exact ⟨cs, e⟩
    · obtain ⟨cs, e, _⟩ := hv; exact ⟨cs, e⟩
    · rename_i h1 h2
      unfold isAgg at ha
      split at ha
      · exact absurd (by assumption) (h1 _)
      · exact absurd (by assumption) (h2 _ _)
      · cases ha
  obtain ⟨cs, rfl⟩ := this
  exact ⟨cs.toList, by simp, flat_ok n t ks fuel _ _ hk (by simpa [Value.cells] using hf)⟩
end

end Open

end Go.Proofs.YteadhacoglcbfaaDoor
namespace Go.Proofs.YteadhacoglcbfaaDoor

open Go.RowKit

/-- Block b holds the cells cs, and may be written. -/
structure Blk (w : World) (b : Nat) (cs : List Value) (t : TypeId) : Prop where
  heap : w.heap[b]? = some (.cells cs.toArray t (0, 0))
theorem Blk.lt {w : World} {b : Nat} {cs : List Value} {t : TypeId} (h : Blk w b cs t) : b < w.heap.size := lt_of_block h.heap
theorem Blk.cell {w : World} {b : Nat} {cs : List Value} {t : TypeId} (h : Blk w b cs t) (j : Nat) {v : Value} (hv : cs[j]? = some v) : w.cell? ⟨b, j, none⟩ = some v := by
  simp [World.cell?, h.heap, hv]
theorem Blk.free {w : World} {b : Nat} {cs : List Value} {t : TypeId} (h : Blk w b cs t) (j : Nat) : w.frozen? ⟨b, j, none⟩ = false := by
  simp [World.frozen?, h.heap]
theorem Blk.alloc {w : World} {b : Nat} {cs : List Value} {t : TypeId} (h : Blk w b cs t) (o : Obj) : Blk (w.alloc o) b cs t :=
  ⟨by rw [Below.heap_alloc _ _ _ (lt_of_block h.heap)]; exact h.heap⟩
theorem Blk.drew {w : World} {b : Nat} {cs : List Value} {t : TypeId} (h : Blk w b cs t) : Blk w.drew b cs t := ⟨h.heap⟩
theorem Blk.drewN {w : World} {b : Nat} {cs : List Value} {t : TypeId} (h : Blk w b cs t) (n : Nat) : Blk (w.drewN n) b cs t := ⟨h.heap⟩
theorem Blk.other {w : World} {b : Nat} {cs : List Value} {t : TypeId} (h : Blk w b cs t) {a : Addr} (ha : b ≠ a.block) (v : Value) : Blk (w.setCell a v) b cs t :=
  ⟨by rw [Below.heap_setCell _ _ _ _ ha]; exact h.heap⟩
theorem Blk.set {w : World} {b : Nat} {cs : List Value} {t : TypeId} (h : Blk w b cs t) (j : Nat) (v : Value) : Blk (w.setCell ⟨b, j, none⟩ v) b (cs.set j v) t := by
  obtain ⟨h⟩ := h
  have hlt := lt_of_block h
  have h' : w.heap[b] = .cells cs.toArray t (0, 0) := by simpa [Array.getElem?_eq_getElem hlt] using h
  refine ⟨?_⟩
  show (w.heap.modify b _)[b]? = _
  rw [Array.getElem?_eq_getElem (by simpa using hlt), Array.getElem_modify_self, h']
  simp
theorem Blk.kp {w w' : World} {b : Nat} {cs : List Value} {t : TypeId} (h : Blk w b cs t) (k : Kp w w') : Blk w' b cs t :=
  ⟨by rw [Below.block k b (lt_of_block h.heap)]; exact h.heap⟩
theorem Blk.new (w : World) (cs : List Value) (t : TypeId) : Blk (w.alloc (.cells cs.toArray t)) w.heap.size cs t :=
  ⟨by show (w.heap.push _)[w.heap.size]? = _; simp⟩
theorem Blk.new' {w : World} {cs : List Value} {t : TypeId} {b : Nat} (h : b = w.heap.size) : Blk (w.alloc (.cells cs.toArray t)) b cs t := by subst h; exact Blk.new w cs t
theorem Blk.newL {w : World} {cs : List Value} {a : Array Value} {t : TypeId} {b : Nat} (h : b = w.heap.size) (hc : a = cs.toArray) : Blk (w.alloc (.cells a t)) b cs t := by subst h; subst hc; exact Blk.new w cs t
/-- A function whose result lies in a block that is known. -/
theorem ret_blk {P : Program} {fn : Func} {R : Ending → World → Prop} {a : Act} {w : World} {vs : List Value} {b : Nat} {T : TypeId} (hb : Blk w b vs T)
    (hr : ∀ wz, Blk wz b vs T → (results fn a.tmps).run P wz = .ok (.agg vs.toArray) wz) (hd : a.defers = []) (hR : R (.returned (.agg vs.toArray)) w) : bodyPost P fn R .ret a w :=
  bodyPost_ret (hr w hb) hd hR
theorem alloc_heap (w : World) (o : Obj) : (w.alloc o).heap = w.heap.push o := rfl
theorem drew_heap (w : World) : w.drew.heap = w.heap := rfl
theorem drewN_heap (w : World) (n : Nat) : (w.drewN n).heap = w.heap := rfl

/-- The k-th of a list of numbers. -/
def nth (l : List Int) (k : Nat) : Int := l.getD k 0
theorem nth_get {l : List Int} {k : Nat} (h : k < l.length) : l[k]? = some (nth l k) := by unfold nth; simp [List.getD, h]
/-- Numbers as cells. -/
def ints (l : List Int) : List Value := l.map (Value.int .i64)
theorem ints_length (l : List Int) : (ints l).length = l.length := by simp [ints]
theorem ints_get {l : List Int} {k : Nat} (h : k < l.length) : (ints l)[k]? = some (.int .i64 (nth l k)) := by
  unfold ints; rw [List.getElem?_map, nth_get h]; rfl
theorem ints_set (l : List Int) (k : Nat) (x : Int) : (ints l).set k (.int .i64 x) = ints (l.set k x) := by unfold ints; rw [List.map_set]
theorem Blk.int {w : World} {b : Nat} {l : List Int} {t : TypeId} (h : Blk w b (ints l) t) (k : Nat) (hk : k < l.length) : w.cell? ⟨b, k, none⟩ = some (.int .i64 (nth l k)) := h.cell k (ints_get hk)
/-- A list of numbers that is filled from the left. -/
def filled (f : Nat → Int) (n k : Nat) : List Int := (List.range n).map fun j => if j < k then f j else 0
theorem filled_length (f : Nat → Int) (n k : Nat) : (filled f n k).length = n := by simp [filled]
theorem filled_zero (f : Nat → Int) (n : Nat) : filled f n 0 = List.replicate n 0 := by
  unfold filled; apply List.ext_getElem <;> simp
theorem filled_succ (f : Nat → Int) {n k : Nat} (_h : k < n) : (filled f n k).set k (f k) = filled f n (k + 1) := by
  unfold filled
  apply List.ext_getElem
  · simp
  · intro i h1 h2
    simp only [List.getElem_set, List.getElem_map, List.getElem_range]
    by_cases e : k = i
    · subst e; simp
    · by_cases c : i < k
      · simp [e, c, Nat.lt_succ_of_lt c]
      · have : ¬ i < k + 1 := by omega
        simp [e, c, this]
theorem filled_all (f : Nat → Int) (n : Nat) : filled f n n = (List.range n).map f := by
  unfold filled; apply List.map_congr_left; intro j hj; rw [if_pos (List.mem_range.1 hj)]
end Go.Proofs.YteadhacoglcbfaaDoor
namespace Go.Proofs.YteadhacoglcbfaaDoor

open Go.RowKit

theorem ret_blkv {P : Program} {fn : Func} {R : Ending → World → Prop} {a : Act} {w : World} {vs : List Value} {b : Nat} {T : TypeId} (v : Value) (hb : Blk w b vs T)
    (hr : ∀ wz, Blk wz b vs T → (results fn a.tmps).run P wz = .ok v wz) (hd : a.defers = []) (hR : R (.returned v) w) : bodyPost P fn R .ret a w :=
  bodyPost_ret (hr w hb) hd hR
end Go.Proofs.YteadhacoglcbfaaDoor
namespace Go.Proofs.YteadhacoglcbfaaDoor

open Go.ChangeShapes Go.WideShapes Go.ChangeAt Go.RowKit Go.Deep

/-- The cells of the elements lie in w from (b, off) on, n an element. -/
def RowAt {α : Type} (w : World) (n : Nat) (enc : α → List Value) (b off : Nat) (l : List α) : Prop :=
  ∀ i x, l[i]? = some x → ∀ j v, (enc x)[j]? = some v → w.cell? ⟨b, off + i * n + j, none⟩ = some v
/-- A slice's header reads as the list l. -/
def SlOk {α : Type} (w : World) (n : Nat) (enc : α → List Value) (a : Option Addr) (len cap : Nat) (l : List α) : Prop :=
  l.length = len ∧ len ≤ cap ∧ cap ≤ maxLen ∧ (l = [] ∨ ∃ b off, a = some ⟨b, off, none⟩ ∧ b < w.heap.size ∧ RowAt w n enc b off l)
theorem RowAt.kp {α : Type} {w w' : World} {n : Nat} {enc : α → List Value} {b off : Nat} {l : List α} (h : RowAt w n enc b off l) (k : Kp w w') (hb : b < w.heap.size) : RowAt w' n enc b off l :=
  fun i x hx j v hv => (k.cell (p := ⟨b, off + i * n + j, none⟩) hb).trans (h i x hx j v hv)
theorem SlOk.kp {α : Type} {w w' : World} {n : Nat} {enc : α → List Value} {a : Option Addr} {len cap : Nat} {l : List α} (h : SlOk w n enc a len cap l) (k : Kp w w') : SlOk w' n enc a len cap l := by
  obtain ⟨h1, h2, h3, h4⟩ := h
  refine ⟨h1, h2, h3, ?_⟩
  rcases h4 with h4 | ⟨b, off, ha, hb, hr⟩
  · exact .inl h4
  · exact .inr ⟨b, off, ha, Nat.lt_of_lt_of_le hb k.size, hr.kp k hb⟩
theorem list_of {α : Type} {P : Nat → α → Prop} : ∀ n : Nat, (∀ i, i < n → ∃ x, P i x) → ∃ l : List α, l.length = n ∧ ∀ i x, l[i]? = some x → P i x := by
  intro n
  induction n with
  | zero => intro _; exact ⟨[], rfl, fun i x h => by simp at h⟩
  | succ n ih =>
    intro h
    obtain ⟨l, hl, hp⟩ := ih (fun i hi => h i (by omega))
    obtain ⟨x, hx⟩ := h n (by omega)
    refine ⟨l ++ [x], by simp [hl], fun i y hy => ?_⟩
    rcases Nat.lt_or_ge i n with c | c
    · rw [List.getElem?_append_left (by omega)] at hy; exact hp i y hy
    · rw [List.getElem?_append_right (by omega), hl] at hy
      have : i - n = 0 := by
        rcases Nat.eq_zero_or_pos (i - n) with z | z
        · exact z
        · rw [List.getElem?_eq_none (by simp; omega)] at hy; cases hy
      rw [this] at hy
      obtain rfl : i = n := by omega
      simp only [List.getElem?_cons_zero, Option.some.injEq] at hy
      subst hy; exact hx

/-- A slice value that reads as a list. -/
structure SlV (α : Type) where
  a : Option Addr
  len : Nat
  cap : Nat
  l : List α
def SlV.v {α : Type} (s : SlV α) : Value := .slice s.a s.len s.cap

namespace Open

section

variable {H : Type} {enc : TypeId × Value → H} {P : Program} {w : World}

theorem open_sl {α : Type} {f : α → List Value} {ok : α → Prop} {r : Reach} {b0 : Nat} {t e n : Nat} {ks : List FK} {v : Value} {d : DataW H} {p : List MemPlace} (m : Nat)
    (ht : P.underlying t = some (.slice e)) (hn : P.cellsOf e = n) (hpos : 0 < n) (hk : flatK P m e = some ks) (hof : ∀ cs, allOk ks cs → ∃ x : α, cs = f x ∧ ok x)
    (hv : Value.okWide P w r b0 t v) (h : DataW.Trod enc P w 0 (fun _ => true) true t v d p) :
    ∃ (a : Option Addr) (len cap : Nat) (l : List α), v = .slice a len cap ∧ SlOk w n f a len cap l ∧ ∀ x, x ∈ l → ok x := by
  obtain ⟨a0, len, cap, rfl⟩ := okWide_slice ht hv
  obtain ⟨fuel, hf⟩ := h
  rcases open_slice ht hf with ⟨hc, _⟩ | ⟨a, len', cap', m', n', D, Pl, hc, _, hl, hm, hmm, _, hi⟩
  · simp only [Value.cells, List.cons.injEq, and_true, Value.slice.injEq] at hc
    obtain ⟨rfl, rfl, rfl⟩ := hc
    exact ⟨none, 0, 0, [], rfl, ⟨rfl, by omega, by unfold maxLen; omega, .inl rfl⟩, fun x hx => by cases hx⟩
  · simp only [Value.cells, List.cons.injEq, and_true, Value.slice.injEq] at hc
    obtain ⟨rfl, rfl, rfl⟩ := hc
    rw [if_pos rfl] at hmm
    subst hmm
    obtain ⟨l, hll, hlp⟩ := list_of (P := fun i (x : α) => ok x ∧ ∀ j v, (f x)[j]? = some v → w.cell? ((a.add (i * n)).add j) = some v) len (fun i hil => by
      obtain ⟨cs', hcs, hx⟩ := hi i (by omega)
      obtain ⟨x, rfl, hok⟩ := hof cs' (flat_ok m e ks _ _ _ hk hx)
      obtain ⟨_, hlen, hcell⟩ := World.cells?_some hcs
      rw [hn] at hlen hcell
      refine ⟨x, hok, fun j v hj => ?_⟩
      have hjn : j < n := by
        rw [← hlen]; exact (List.getElem?_eq_some_iff.1 hj).1
      rw [hcell j hjn, hj])
    refine ⟨some a, len, _, l, rfl, ⟨hll, hl, hm, ?_⟩, fun x hx => by
      obtain ⟨i, hi', rfl⟩ := List.getElem_of_mem hx
      exact (hlp i l[i] (List.getElem?_eq_getElem hi')).1⟩
    rcases Nat.eq_zero_or_pos len with z | z
    · left; exact List.eq_nil_of_length_eq_zero (by omega)
    · right
      obtain ⟨cs', hcs, _⟩ := hi 0 (by omega)
      obtain ⟨_, hlen, hcell⟩ := World.cells?_some hcs
      rw [hn] at hlen hcell
      have h0 := hcell 0 hpos
      rw [List.getElem?_eq_getElem (by omega)] at h0
      obtain ⟨b, off, spot⟩ := a
      have hs : spot = none := by simpa [Addr.add] using World.cell?_spot h0
      subst hs
      have hb := World.block_lt_of_cell? w _ h0
      refine ⟨b, off, rfl, by simpa [Addr.add] using hb, fun i x hx j v hv => ?_⟩
      have := (hlp i x hx).2 j v hv
      rwa [Go.WideShapes.add_plain, Go.WideShapes.add_plain] at this
end

end Open

end Go.Proofs.YteadhacoglcbfaaDoor
namespace Go.Proofs.YteadhacoglcbfaaDoor

open Go.RowKit

/-- A slice value (nil, or a block of its own from 'base' on) that holds the elements l, n cells an element. -/
def Row {α : Type} (w : World) (base : Nat) (e : TypeId) (n : Nat) (enc : α → List Value) (v : Value) (l : List α) : Prop := w.ownsRow base e n v l.length (l.flatMap enc)
theorem Row.nil {α : Type} (w : World) (base : Nat) (e : TypeId) (n : Nat) (enc : α → List Value) : Row w base e n enc (.slice none 0 0) [] := World.ownsRow_nil w base e n
theorem Kp.grownBy {w w' : World} (k : Kp w w') : w.grownBy w' none := ⟨k.os, k.tape, k.output, k.size, fun i hi _ => k.block i hi⟩
theorem Row.kp {α : Type} {w w' : World} {base n : Nat} {e : TypeId} {enc : α → List Value} {v : Value} {l : List α} (h : Row w base e n enc v l) (k : Kp w w') : Row w' base e n enc v l :=
  World.ownsRow.kept h k.grownBy (by cases hv : v.ownBlock <;> simp)
theorem Row.alloc {α : Type} {w : World} {base n : Nat} {e : TypeId} {enc : α → List Value} {v : Value} {l : List α} (h : Row w base e n enc v l) (o : Obj) : Row (w.alloc o) base e n enc v l := World.ownsRow.alloc h o
theorem Row.drew {α : Type} {w : World} {base n : Nat} {e : TypeId} {enc : α → List Value} {v : Value} {l : List α} (h : Row w base e n enc v l) : Row w.drew base e n enc v l := h.kp ((Kp.refl w).drew)
theorem flatMap_get {α : Type} {enc : α → List Value} {n : Nat} (hn : ∀ x, (enc x).length = n) : ∀ (l : List α) (i : Nat) (x : α) (j : Nat) (v : Value), l[i]? = some x → (enc x)[j]? = some v → (l.flatMap enc)[i * n + j]? = some v
  | [], i, x, j, v, h, _ => by simp at h
  | y :: l, 0, x, j, v, h, hv => by
    simp only [List.getElem?_cons_zero, Option.some.injEq] at h
    subst h
    rw [List.flatMap_cons, Nat.zero_mul, Nat.zero_add, List.getElem?_append_left (List.getElem?_eq_some_iff.1 hv).1]
    exact hv
  | y :: l, i + 1, x, j, v, h, hv => by
    rw [List.getElem?_cons_succ] at h
    have ih := flatMap_get hn l i x j v h hv
    rw [List.flatMap_cons, List.getElem?_append_right (by rw [hn]; rw [Nat.add_mul]; omega), hn, show (i + 1) * n + j - n = i * n + j by rw [Nat.add_mul]; omega]
    exact ih
theorem Row.sl {α : Type} {w : World} {base n : Nat} {e : TypeId} {enc : α → List Value} {v : Value} {l : List α} (h : Row w base e n enc v l) (hn : ∀ x, (enc x).length = n) : ∃ a cap, v = .slice a l.length cap ∧ SlOk w n enc a l.length cap l := by
  rcases h.2 with ⟨hv, h0⟩ | ⟨g, cap, cur, hv, hb, hg, hc, hm, hs, ht⟩
  · have hl : l = [] := List.eq_nil_of_length_eq_zero h0
    subst hl
    exact ⟨none, 0, hv, rfl, Nat.le_refl _, Nat.zero_le _, .inl rfl⟩
  · refine ⟨some ⟨g, 0, none⟩, cap, hv, rfl, hc, hm, .inr ⟨g, 0, rfl, (Array.getElem?_eq_some_iff.1 hg).1, ?_⟩⟩
    intro i x hx j u hu
    have hu2 := flatMap_get hn l i x j u hx hu
    have hcell := World.ownsRow.cells h (g := g) (by rw [hv]; rfl) _ _ hu2
    have hadd : (⟨g, 0, none⟩ : Addr).add (i * n + j) = ⟨g, i * n + j, none⟩ := by unfold Addr.add; split <;> simp_all
    rw [hadd] at hcell
    rw [Nat.zero_add]; exact hcell
theorem Row.lt {α : Type} {w : World} {base n : Nat} {e : TypeId} {enc : α → List Value} {v : Value} {l : List α} (h : Row w base e n enc v l) : ∀ k, v.ownBlock = some k → base ≤ k ∧ k < w.heap.size := World.ownsRow.lt h
/-- 'out = append(out, y)': the element lies in a block of its own. -/
theorem rowAppend {α : Type} {ops : Array Oper} {rest : List Oper} {o : Oper} {a : Act} {w : World} {Q : Exit → Act → World → Prop} (hgd : o.guard = none) (s x : Operand) (t : TypeId)
    (ho : o.op = .call { callee := .builtin .append, args := #[s, x], argTypes := #[t, t] }) {base : Nat} {e : TypeId} {z : Value} {n bytes : Nat} (ht : Tryd.prog.underlying t = some (.slice e))
    (hinfo : (Tryd.prog.info? e).map (fun i => (i.zero, i.size, i.bytes)) = some (some z, n, bytes)) (hzs : z.cells.size = n) (hsz : 0 < n)
    {v : Value} {l : List α} {enc : α → List Value} (hrow : Row w base e n enc v l) (hs : a.eval s = v) {y : α} (hy : (enc y).length = n) (h1 : ∀ u ∈ enc y, u.oneCell' = true) {b : Nat} {t' : TypeId} (hb : Blk w b (enc y) t')
    (hx : a.eval x = .slice (some ⟨b, 0, none⟩) 1 1) (hlen : l.length + 1 ≤ maxLen) (hbytes : (l.length + 1) * bytes ≤ 140737488355328) (hbase : base ≤ w.heap.size)
    (h : ∀ v' w', Row w' base e n enc v' (l ++ [y]) → (∀ {W : World}, W.heap.size ≤ base → Kp W w → Kp W w') → (∀ {b' : Nat} {cs : List Value} {t'' : TypeId}, b' < base → Blk w b' cs t'' → Blk w' b' cs t'') → w.heap.size ≤ w'.heap.size → v' ≠ .slice none 0 0 →
      wpList Tryd.prog ops Q rest (a.put o.dst v') w') : wpList Tryd.prog ops Q (o :: rest) a w := by
  obtain ⟨i0, hi, hz0, hz1, hz2⟩ := info_parts hinfo
  refine wpList_append_own w hgd s x t ho base e i0 z n bytes ht hi hz0 hz1 hz2 hzs hsz v l.length _ hs hrow ⟨b, 0, none⟩ 1 1 (enc y) hx (by rw [hy, Nat.one_mul]) (fun j u hu => ?_) h1 hlen hbytes hbase ?_
  · have hadd : (⟨b, 0, none⟩ : Addr).add j = ⟨b, j, none⟩ := by unfold Addr.add; split <;> simp_all
    rw [hadd]; exact hb.cell j hu
  · intro v' w' hown hgrow hnil
    have hr : ∀ k, v.ownBlock = some k → base ≤ k := fun k hk => (hrow.lt k hk).1
    refine h v' w' ?_ (fun {W} hW kW => Below.grown kW hgrow kW.size (fun k hk => Nat.le_trans hW (hr k hk))) (fun {b' cs t''} hb' hB => ⟨?_⟩) hgrow.size (fun e => ?_)
    · unfold Row
      rw [List.length_append, List.flatMap_append]
      simpa using hown
    · rw [hgrow.block b' hB.lt (fun e => by have := hr b' e.symm; omega)]; exact hB.heap
    · have := (hnil.1 e).2; omega
/-- A slice that was there reads as it did, if cells of another block alone were turned. -/
theorem SlOk.far {α : Type} {w w' : World} {n : Nat} {enc : α → List Value} {a : Option Addr} {len cap bb : Nat} {l : List α} (h : SlOk w n enc a len cap l) (hne : ∀ b off, a = some ⟨b, off, none⟩ → b ≠ bb) (hc : ∀ p : Addr, p.block ≠ bb → w'.cell? p = w.cell? p) (hs : w.heap.size ≤ w'.heap.size) : SlOk w' n enc a len cap l := by
  obtain ⟨h1, h2, h3, h4⟩ := h
  refine ⟨h1, h2, h3, ?_⟩
  rcases h4 with h4 | ⟨b, off, ha, hb, hr⟩
  · exact .inl h4
  · exact .inr ⟨b, off, ha, Nat.lt_of_lt_of_le hb hs, fun i x hx j v hv => (hc ⟨b, off + i * n + j, none⟩ (hne b off ha)).trans (hr i x hx j v hv)⟩
end Go.Proofs.YteadhacoglcbfaaDoor
namespace Go.Proofs.YteadhacoglcbfaaDoor

open Go.RowKit

theorem bldSize : (Tryd.prog.info? 71).map (·.size) = some 2 := by kernel_rfl
theorem bldLies : liesAt Tryd.prog Tryd.prog.depth 71 (2 / Tryd.prog.cellsOf 71) 0 71 1 = true := by kernel_rfl
theorem byteInfo : (Tryd.prog.info? 5).map (fun i => (i.zero, i.size, i.bytes)) = some (some (.int .u8 0), 1, 1) := by kernel_rfl

set_option maxRecDepth 100000 in
set_option maxHeartbeats 1000000 in
theorem copyCheck_used (b : Nat) (w : World) (h0 : w.cell? ⟨b, 0, none⟩ = some (.pointer (some ⟨b, 0, none⟩))) :
    Calls Tryd.prog 46 #[.pointer (some ⟨b, 0, none⟩)] w fun e w' => e = .returned (.tuple #[]) ∧ w' = w := by
  obtain ⟨j, hj, _⟩ := Option.map_eq_some_iff.1 bldSize
  go_enter Tryd.func46, Tryd.ntmps46
  go_wp2
  rw [Lib.run_neq_ptr_same w _ Tryd.underlying68 hj]
  go_wp2
  go_end0
  exact ⟨rfl, rfl⟩
set_option maxRecDepth 100000 in
set_option maxHeartbeats 1000000 in
theorem copyCheck_fresh (b : Nat) (w : World) (h0 : w.cell? ⟨b, 0, none⟩ = some (.pointer none)) (hsh : w.shape? b = some (71, 2)) (hfz : w.frozen? ⟨b, 0, none⟩ = false) :
    Calls Tryd.prog 46 #[.pointer (some ⟨b, 0, none⟩)] w fun e w' => e = .returned (.tuple #[]) ∧ w' = w.setCell ⟨b, 0, none⟩ (.pointer (some ⟨b, 0, none⟩)) := by
  obtain ⟨j, hj, hjs⟩ := Option.map_eq_some_iff.1 bldSize
  go_enter Tryd.func46, Tryd.ntmps46
  go_wp2
  rw [Lib.run_to_unsafe w ⟨b, 0, none⟩ Tryd.underlying68 Tryd.underlying98 hj (by rw [hjs]; decide) hsh (Nat.zero_lt_succ 1)]
  simp only [Result.andThen]
  rw [Oper.upon_value]
  go_wp2
  rw [run_callFunc_extern Tryd.func53 (by kernel_rfl) (by kernel_rfl) (by kernel_rfl) (e := Extern.AbiNoEscape.same) (by kernel_rfl)]
  rw [Lib.run_noEscape]
  simp only [Result.andThen]
  rw [Oper.upon_value]
  go_wp2
  rw [Lib.run_from_unsafe w ⟨b, 0, none⟩ Tryd.underlying98 Tryd.underlying68 hj hsh bldLies]
  simp only [Result.andThen]
  rw [Oper.upon_value]
  go_wp2
  go_end0
  exact ⟨rfl, rfl⟩
/-- What a write into the builder in block b leaves: what was there below B, and all blocks but its own that hold no bytes. -/
def Wr (B b : Nat) (w w' : World) : Prop := Below B w w' ∧ ∀ k cs t f, w.heap[k]? = some (.cells cs t f) → t ≠ 5 → k ≠ b → w'.heap[k]? = some (.cells cs t f)
theorem Wr.refl (B b : Nat) (w : World) : Wr B b w w := ⟨Below.refl B w, fun _ _ _ _ h _ _ => h⟩
theorem Wr.trans {B b : Nat} {u v w : World} (h : Wr B b u v) (k : Wr B b v w) : Wr B b u w := ⟨h.1.trans k.1, fun i cs t f hi ht hb => k.2 i cs t f (h.2 i cs t f hi ht hb) ht hb⟩
theorem Wr.set {B b : Nat} {u w : World} (h : Wr B b u w) (hB : B ≤ b) (j : Nat) (v : Value) : Wr B b u (w.setCell ⟨b, j, none⟩ v) :=
  ⟨h.1.setCell (p := ⟨b, j, none⟩) hB v, fun i cs t f hi ht hb => by rw [Below.heap_setCell _ _ _ _ hb]; exact h.2 i cs t f hi ht hb⟩
theorem Wr.alloc {B b : Nat} {u w : World} (h : Wr B b u w) (hB : B ≤ w.heap.size) (o : Obj) : Wr B b u (w.alloc o) :=
  ⟨h.1.alloc hB o, fun i cs t f hi ht hb => by have := h.2 i cs t f hi ht hb; rw [Below.heap_alloc _ _ _ (lt_of_block this)]; exact this⟩
theorem Wr.grown {B b : Nat} {u w w' : World} {row : Option Nat} (h : Wr B b u w) (hg : w.grownBy w' row) (hB : B ≤ w.heap.size) (hr : ∀ k, row = some k → B ≤ k ∧ ∃ cs f, w.heap[k]? = some (.cells cs 5 f)) : Wr B b u w' := by
  refine ⟨h.1.grown hg hB (fun k hk => (hr k hk).1), fun i cs t f hi ht hb => ?_⟩
  have hi' := h.2 i cs t f hi ht hb
  rw [hg.block i (lt_of_block hi') (fun e => ?_)]
  · exact hi'
  · obtain ⟨_, cs', f', h'⟩ := hr i e.symm
    rw [hi'] at h'
    cases h'
    exact ht rfl
theorem row_type {w : World} {B : Nat} {v : Value} {n : Nat} {xs : List Value} (h : w.ownsRow B 5 1 v n xs) : ∀ k, v.ownBlock = some k → B ≤ k ∧ ∃ cs f, w.heap[k]? = some (.cells cs 5 f) := by
  intro k hk
  rcases h.2 with ⟨rfl, _⟩ | ⟨g, cap, cur, rfl, hb, hg, _⟩
  · simp [Value.ownBlock] at hk
  · simp [Value.ownBlock] at hk
    subst hk
    exact ⟨hb, _, _, hg⟩
theorem copyCheck_any (B b : Nat) (bs : List Value) (w : World) (h : Lib.IsBuilder 71 5 B b bs w) :
    Calls Tryd.prog 46 #[.pointer (some ⟨b, 0, none⟩)] w fun e w' => e = .returned (.tuple #[]) ∧ (Lib.BuilderAt 71 5 B b (.pointer (some ⟨b, 0, none⟩)) bs w' ∧ Wr B b w w') := by
  rcases h with h | h
  · refine (copyCheck_fresh b w h.cell0 h.shape h.frozen0).mono ?_
    rintro e w' ⟨rfl, rfl⟩
    exact ⟨rfl, h.used _, (Wr.refl B b w).set h.1 0 _⟩
  · refine (copyCheck_used b w h.cell0).mono ?_
    rintro e w' ⟨rfl, rfl⟩
    exact ⟨rfl, h, Wr.refl B b _⟩
set_option maxHeartbeats 2000000 in
set_option maxRecDepth 100000 in
theorem writeByte_any (B b : Nat) (bs : List Value) (c : Int) (w : World) (h : Lib.IsBuilder 71 5 B b bs w) (hlen : bs.length + 1 ≤ 140737488355328) (hBw : B ≤ w.heap.size) :
    Calls Tryd.prog 34 #[.pointer (some ⟨b, 0, none⟩), .int .u8 c] w fun e w' => e = .returned .nilIface ∧ (Lib.BuilderAt 71 5 B b (.pointer (some ⟨b, 0, none⟩)) (bs ++ [.int .u8 c]) w' ∧ Wr B b w w') := by
  obtain ⟨i0, hi, hz0, hz1, hz2⟩ := info_parts byteInfo
  have CC := Lib.hid (copyCheck_any B b bs w h)
  clear h
  go_enter Tryd.func34, Tryd.ntmps34
  go_wp2_with fail
  refine CC.out.mono ?_
  rintro e w1 ⟨rfl, h1, hb1⟩
  obtain ⟨hB, v, hbk, hown, hne⟩ := h1
  have c0 : w1.cell? ⟨b, 0, none⟩ = some (.pointer (some ⟨b, 0, none⟩)) := by rw [Lib.cell_of_heap hbk]; rfl
  have c1 : w1.cell? ⟨b, 1, none⟩ = some v := by rw [Lib.cell_of_heap hbk]; rfl
  have hlt : b < w1.heap.size := by
    rcases Nat.lt_or_ge b w1.heap.size with h' | h'
    · exact h'
    · simp [Array.getElem?_eq_none h'] at hbk
  clear CC
  go_wp2_with (at_builtin; refine wpList_append_own _ rfl _ _ 69 rfl B 5 i0 (.int .u8 0) 1 1 Tryd.underlying69 hi hz0 hz1 hz2 rfl (by decide) _ _ _ rfl (hown.alloc _) ⟨w1.heap.size, 0, none⟩ 1 1 [.int .u8 c] rfl rfl ?c1 ?c2 ?c3 ?c4 ?c5 ?_)
  case c1 =>
    intro j u hj
    match j, hj with
    | 0, hj => simp at hj; subst hj; simp [Addr.add]
  case c2 => intro u hu; simp at hu; subst hu; rfl
  case c3 => unfold maxLen; omega
  case c4 => omega
  case c5 => have := hb1.1.size; simp; omega
  intro v' w2 hown' hgrow _
  have hb2 : w2.heap[b]? = some (.cells #[.pointer (some ⟨b, 0, none⟩), v] 71 (0, 0)) := by
    rw [hgrow.block b (by simp; omega) (fun e => hne e.symm), Lib.alloc_old w1 _ b hlt]
    exact hbk
  have d0 : w2.cell? ⟨b, 0, none⟩ = some (.pointer (some ⟨b, 0, none⟩)) := by rw [Lib.cell_of_heap hb2]; rfl
  have d1 : w2.cell? ⟨b, 1, none⟩ = some v := by rw [Lib.cell_of_heap hb2]; rfl
  have f1 : w2.frozen? ⟨b, 1, none⟩ = false := Lib.frozen_of_heap hb2 1
  obtain ⟨g, cap, rfl⟩ : ∃ g cap, v' = .slice (some ⟨g, 0, none⟩) (bs.length + 1) cap := by
    rcases hown'.2 with ⟨_, h0⟩ | ⟨g, cap, cur, hv, _⟩
    · omega
    · exact ⟨g, cap, hv⟩
  go_wp2
  go_ret
  refine ⟨rfl, ?_, ?_⟩
  · exact Lib.BuilderAt.put (T := 71) (e := 5) hB hb2 (bs' := bs ++ [.int .u8 c]) (by simpa using hown') (by decide)
  · exact ((hb1.alloc (by have := hb1.1.size; omega) _).grown hgrow (by have := hb1.1.size; simp; omega) (row_type (hown.alloc _))).set hB 1 _
set_option maxHeartbeats 2000000 in
set_option maxRecDepth 100000 in
theorem writeString_any (B b : Nat) (bs : List Value) (s : ByteArray) (w : World) (h : Lib.IsBuilder 71 5 B b bs w) (hlen : bs.length + s.size ≤ 140737488355328) (hBw : B ≤ w.heap.size) :
    Calls Tryd.prog 33 #[.pointer (some ⟨b, 0, none⟩), .string s] w fun e w' => e = .returned (.tuple #[.int .i64 s.size, .nilIface]) ∧ (Lib.BuilderAt 71 5 B b (.pointer (some ⟨b, 0, none⟩)) (bs ++ Lib.strCells s) w' ∧ Wr B b w w') := by
  obtain ⟨i0, hi, hz0, hz1, hz2⟩ := info_parts byteInfo
  have CC := Lib.hid (copyCheck_any B b bs w h)
  clear h
  go_enter Tryd.func33, Tryd.ntmps33
  go_wp2_with fail
  refine CC.out.mono ?_
  rintro e w1 ⟨rfl, h1, hb1⟩
  obtain ⟨hB, v, hbk, hown, hne⟩ := h1
  have c0 : w1.cell? ⟨b, 0, none⟩ = some (.pointer (some ⟨b, 0, none⟩)) := by rw [Lib.cell_of_heap hbk]; rfl
  have c1 : w1.cell? ⟨b, 1, none⟩ = some v := by rw [Lib.cell_of_heap hbk]; rfl
  clear CC
  go_wp2_with (at_builtin; refine Lib.wpList_append_own_string _ rfl _ _ 69 9 rfl B 5 i0 Tryd.underlying69 Tryd.underlying9 hi hz0 hz1 hz2 _ _ _ rfl hown s rfl ?c3 ?c4 ?c5 ?_)
  case c3 => unfold maxLen; omega
  case c4 => omega
  case c5 => have := hb1.1.size; omega
  intro v' w2 hown' hgrow _
  have hlt : b < w1.heap.size := by
    rcases Nat.lt_or_ge b w1.heap.size with h' | h'
    · exact h'
    · simp [Array.getElem?_eq_none h'] at hbk
  have hb2 : w2.heap[b]? = some (.cells #[.pointer (some ⟨b, 0, none⟩), v] 71 (0, 0)) := by
    rw [hgrow.block b hlt (fun e => hne e.symm)]
    exact hbk
  have d0 : w2.cell? ⟨b, 0, none⟩ = some (.pointer (some ⟨b, 0, none⟩)) := by rw [Lib.cell_of_heap hb2]; rfl
  have d1 : w2.cell? ⟨b, 1, none⟩ = some v := by rw [Lib.cell_of_heap hb2]; rfl
  have f1 : w2.frozen? ⟨b, 1, none⟩ = false := Lib.frozen_of_heap hb2 1
  obtain ⟨ao, n', cap, rfl⟩ : ∃ ao n' cap, v' = .slice ao n' cap := by
    rcases hown'.2 with ⟨hv, _⟩ | ⟨g, cap, cur, hv, _⟩
    · exact ⟨_, _, _, hv⟩
    · exact ⟨_, _, _, hv⟩
  go_wp2
  go_ret2
  refine ⟨rfl, ?_, ?_⟩
  · exact Lib.BuilderAt.put (T := 71) (e := 5) hB hb2 (bs' := bs ++ Lib.strCells s) (by simpa [Lib.strCells_length] using hown') (by decide)
  · exact (hb1.grown hgrow (by have := hb1.1.size; omega) (row_type hown)).set hB 1 _
end Go.Proofs.YteadhacoglcbfaaDoor
namespace Go.Proofs.YteadhacoglcbfaaDoor

open Go.ChangeShapes Go.WideShapes Go.ChangeAt Go.RowKit Go.Deep

/-- The kind of a cell; a slice tells its elements' cells. -/
inductive DK where
  | int (k : IntKind)
  | bool
  | str
  | sl (n : Nat) (ks : List DK)

mutual
def DK.ok (w : World) : DK → Value → Prop
  | .int k, v => ∃ x, v = .int k x ∧ (Lit.int k x).wf = true
  | .bool, v => ∃ b, v = .bool b
  | .str, v => ∃ s : ByteArray, v = .string s ∧ s.size ≤ maxLen
  | .sl n ks, v => ∃ a len cap, v = .slice a len cap ∧ len ≤ cap ∧ cap ≤ maxLen ∧
      (len = 0 ∨ ∃ b off, a = some ⟨b, off, none⟩ ∧ b < w.heap.size) ∧ ∀ i, i < len → ∃ cs : List Value, cs.length = n ∧ dOk w ks cs ∧ ∀ b off, a = some ⟨b, off, none⟩ → ∀ (j : Nat) (u : Value), cs[j]? = some u → w.cell? ⟨b, off + i * n + j, none⟩ = some u
def dOk (w : World) : List DK → List Value → Prop
  | [], cs => cs = []
  | k :: ks, cs => ∃ v vs, cs = v :: vs ∧ k.ok w v ∧ dOk w ks vs
end

theorem dOk_length {w : World} : ∀ {ks : List DK} {cs : List Value}, dOk w ks cs → cs.length = ks.length
  | [], cs, h => by unfold dOk at h; subst h; rfl
  | k :: ks, cs, h => by
    unfold dOk at h
    obtain ⟨v, vs, rfl, _, h2⟩ := h
    rw [List.length_cons, List.length_cons, dOk_length h2]
theorem dOk_append {w : World} {ks' : List DK} {vs' : List Value} (h' : dOk w ks' vs') : ∀ {ks : List DK} {vs : List Value}, dOk w ks vs → dOk w (ks ++ ks') (vs ++ vs')
  | [], vs, h => by unfold dOk at h; subst h; exact h'
  | k :: ks, vs, h => by
    unfold dOk at h
    obtain ⟨v, vs, rfl, h1, h2⟩ := h
    have := dOk_append h' h2
    rw [List.cons_append, List.cons_append]
    unfold dOk
    exact ⟨v, _, rfl, h1, this⟩
namespace Open

def deepFs (P : Program) (g : TypeId → Option (List DK)) : List Field → Nat → Option (List DK)
  | [], _ => some []
  | f :: r, o => if f.offset = o then (match g f.type with
      | some l => if P.cellsOf f.type = l.length then (deepFs P g r (o + l.length)).map (l ++ ·) else none
      | none => none) else none
def deepK (P : Program) : Nat → TypeId → Option (List DK)
  | 0, _ => none
  | n + 1, t => match P.underlying t with
    | some (.int k) => some [.int k]
    | some .bool => some [.bool]
    | some .string => some [.str]
    | some (.struct fs) => (match deepFs P (deepK P n) fs.toList 0 with
      | some l => if P.cellsOf t = l.length then some l else none
      | none => none)
    | some (.slice e) => (match deepK P n e with
      | some l => if P.cellsOf e = l.length ∧ 0 < l.length then some [.sl l.length l] else none
      | none => none)
    | _ => none
section

variable {H : Type} {enc : TypeId × Value → H} {P : Program} {w : World}

theorem deepFs_ok {g : TypeId → Option (List DK)} {n : Nat} (hg : ∀ t ks cs x, g t = some ks → DataW.trod enc P w 0 (fun _ => true) true n t cs = some x → dOk w ks cs) :
    ∀ (fs : List Field) (o : Nat) (ks : List DK) (cs : List Value), deepFs P g fs o = some ks → cs.length = o + ks.length →
      (∀ (f : Field), f ∈ fs → ∃ x, DataW.trod enc P w 0 (fun _ => true) true n f.type ((cs.drop f.offset).take (P.cellsOf f.type)) = some x) → dOk w ks (cs.drop o) := by
  intro fs
  induction fs with
  | nil =>
    intro o ks cs h hl _
    simp only [deepFs, Option.some.injEq] at h
    subst h
    have : cs.drop o = [] := by apply List.drop_eq_nil_of_le; simp at hl; omega
    rw [this]; unfold dOk; rfl
  | cons f r ih =>
    intro o ks cs h hl hx
    simp only [deepFs] at h
    split at h
    next ho =>
      split at h
      next l hgl =>
        split at h
        next hc =>
          obtain ⟨ks', hk, rfl⟩ := Option.map_eq_some_iff.1 h
          have h1 := ih (o + l.length) ks' cs hk (by rw [List.length_append] at hl; omega) (fun f' hf' => hx f' (List.mem_cons_of_mem _ hf'))
          obtain ⟨x, hx0⟩ := hx f List.mem_cons_self
          have h0 := hg _ _ _ _ hgl hx0
          rw [ho, hc] at h0
          have := dOk_append h1 h0
          rw [← List.drop_drop, List.take_append_drop] at this
          exact this
        next => cases h
      next => cases h
    next => cases h
theorem dOk_one {k : DK} {v : Value} (h : k.ok w v) : dOk w [k] [v] := by
  unfold dOk
  exact ⟨v, [], rfl, h, by unfold dOk; rfl⟩
theorem deep_ok : ∀ (n : Nat) (t : TypeId) (ks : List DK) (fuel : Nat) (cs : List Value) (x : DataW H × List MemPlace), deepK P n t = some ks → DataW.trod enc P w 0 (fun _ => true) true fuel t cs = some x → dOk w ks cs := by
  intro n
  induction n with
  | zero => intro t ks fuel cs x h; simp [deepK] at h
  | succ n ih =>
    intro t ks fuel cs x h hx
    simp only [deepK] at h
    split at h
    next k hu =>
      simp only [Option.some.injEq] at h; subst h
      obtain ⟨y, rfl, _, hw⟩ := DataW.trod_int hu hx
      exact dOk_one (by unfold DK.ok; exact ⟨y, rfl, hw⟩)
    next hu =>
      simp only [Option.some.injEq] at h; subst h
      obtain ⟨y, rfl, _⟩ := DataW.trod_bool hu hx
      exact dOk_one (by unfold DK.ok; exact ⟨y, rfl⟩)
    next hu =>
      simp only [Option.some.injEq] at h; subst h
      obtain ⟨y, rfl, _, hs⟩ := DataW.trod_string hu hx
      exact dOk_one (by unfold DK.ok; exact ⟨y, rfl, hs⟩)
    next fs hu =>
      split at h
      next l hl =>
        split at h
        next hc =>
          simp only [Option.some.injEq] at h; subst h
          obtain ⟨xs, f', _, _, hcl, hxl, hxi⟩ := DataW.trod_struct hu hx
          have := deepFs_ok (fun t ks cs x => ih t ks f' cs x) fs.toList 0 _ cs hl (by rw [hcl, hc]; omega) (fun f hf => by
            obtain ⟨i, hi, rfl⟩ := List.getElem_of_mem hf
            have hi' : i < fs.size := by simpa using hi
            have := hxi i fs[i] (Array.getElem?_eq_getElem hi')
            rw [List.getElem?_eq_getElem (by omega)] at this
            exact ⟨_, by simpa using this⟩)
          simpa using this
        next => cases h
      next => cases h
    next e hu =>
      split at h
      next l hl =>
        split at h
        next hc =>
          simp only [Option.some.injEq] at h; subst h
          rcases open_slice hu hx with ⟨hc', _⟩ | ⟨a, len, cap, m', n', D, Pl, hc', _, hle, hm, hmm, _, hi⟩
          · rw [hc']
            exact dOk_one (by unfold DK.ok; exact ⟨none, 0, 0, rfl, Nat.le_refl _, by unfold maxLen; omega, .inl rfl, fun i hi => absurd hi (Nat.not_lt_zero _)⟩)
          · rw [hc']
            rw [if_pos rfl] at hmm
            subst hmm
            refine dOk_one ?_
            unfold DK.ok
            refine ⟨some a, len, _, rfl, hle, hm, ?_, fun i hil => ?_⟩
            · rcases Nat.eq_zero_or_pos len with z | z
              · exact .inl z
              · right
                obtain ⟨cs', hcs, _⟩ := hi 0 (by omega)
                obtain ⟨_, hlen, hcell⟩ := World.cells?_some hcs
                rw [hc.1] at hlen hcell
                have h0 := hcell 0 hc.2
                rw [List.getElem?_eq_getElem (by omega)] at h0
                obtain ⟨b, off, spot⟩ := a
                have hs : spot = none := by simpa [Addr.add] using World.cell?_spot h0
                subst hs
                have hb := World.block_lt_of_cell? w _ h0
                exact ⟨b, off, rfl, by simpa [Addr.add] using hb⟩
            · obtain ⟨cs', hcs, hx'⟩ := hi i (by omega)
              obtain ⟨_, hlen, hcell⟩ := World.cells?_some hcs
              rw [hc.1] at hlen hcell
              refine ⟨cs', hlen, ih _ _ _ _ _ hl hx', fun b off hab j u hu => ?_⟩
              cases hab
              have hjn : j < l.length := by
                rw [← hlen]; exact (List.getElem?_eq_some_iff.1 hu).1
              have := hcell j hjn
              rw [hu, Go.WideShapes.add_plain, Go.WideShapes.add_plain] at this
              exact this
        next => cases h
      next => cases h
    next => cases h
/-- A slice that came in, whose elements hold slices. -/
theorem open_deep {r : Reach} {b0 : Nat} {t e : TypeId} {v : Value} {d : DataW H} {p : List MemPlace} (m : Nat) {ks : List DK}
    (ht : P.underlying t = some (.slice e)) (hk : deepK P m t = some ks)
    (hv : Value.okWide P w r b0 t v) (h : DataW.Trod enc P w 0 (fun _ => true) true t v d p) : dOk w ks [v] := by
  obtain ⟨a0, len, cap, rfl⟩ := okWide_slice ht hv
  obtain ⟨fuel, hf⟩ := h
  exact deep_ok m t ks fuel _ _ hk hf
end

end Open

end Go.Proofs.YteadhacoglcbfaaDoor
namespace Go.Proofs.YteadhacoglcbfaaDoor

open Go.ChangeShapes Go.WideShapes Go.ChangeAt Go.RowKit Go.Deep

theorem sl_of_dOk {α : Type} {w : World} {n : Nat} {ks : List DK} {f : α → List Value} {Q : α → Prop} (hof : ∀ cs, dOk w ks cs → ∃ x, cs = f x ∧ Q x) {v : Value} (h : (DK.sl n ks).ok w v) :
    ∃ (a : Option Addr) (len cap : Nat) (l : List α), v = .slice a len cap ∧ SlOk w n f a len cap l ∧ ∀ x, x ∈ l → Q x := by
  unfold DK.ok at h
  obtain ⟨a, len, cap, rfl, h1, h2, h3, h4⟩ := h
  obtain ⟨l, hll, hlp⟩ := list_of (P := fun i (x : α) => Q x ∧ ∀ b off, a = some ⟨b, off, none⟩ → ∀ (j : Nat) (u : Value), (f x)[j]? = some u → w.cell? ⟨b, off + i * n + j, none⟩ = some u) len (fun i hil => by
    obtain ⟨cs, _, hd, hc⟩ := h4 i hil
    obtain ⟨x, rfl, hq⟩ := hof cs hd
    exact ⟨x, hq, hc⟩)
  refine ⟨a, len, cap, l, rfl, ⟨hll, h1, h2, ?_⟩, fun x hx => by
    obtain ⟨i, hi', rfl⟩ := List.getElem_of_mem hx
    exact (hlp i l[i] (List.getElem?_eq_getElem hi')).1⟩
  rcases h3 with z | ⟨b, off, rfl, hb⟩
  · left; exact List.eq_nil_of_length_eq_zero (by omega)
  · right; exact ⟨b, off, rfl, hb, fun i x hx j u hu => (hlp i x hx).2 b off rfl j u hu⟩
theorem dOk_int {w : World} {k : IntKind} {ks : List DK} {cs : List Value} (h : dOk w (.int k :: ks) cs) : ∃ x vs, cs = .int k x :: vs ∧ (Lit.int k x).wf = true ∧ dOk w ks vs := by
  unfold dOk at h
  obtain ⟨v, vs, rfl, h1, h2⟩ := h
  unfold DK.ok at h1
  obtain ⟨x, rfl, hw⟩ := h1
  exact ⟨x, vs, rfl, hw, h2⟩
theorem dOk_sl {w : World} {n : Nat} {ks' ks : List DK} {cs : List Value} (h : dOk w (.sl n ks' :: ks) cs) : ∃ v vs, cs = v :: vs ∧ (DK.sl n ks').ok w v ∧ dOk w ks vs := by
  unfold dOk at h; exact h
theorem dOk_nil {w : World} {cs : List Value} (h : dOk w [] cs) : cs = [] := by unfold dOk at h; exact h

structure Put where
  k : Int
  n : Int
  l : Int
  y : Int
  h : Int
def Put.cells (x : Put) : List Value := [.int .i64 x.k, .int .i64 x.n, .int .i64 x.l, .int .i64 x.y, .int .i64 x.h]
def Put.ok (x : Put) : Prop := I64 x.k ∧ I64 x.n ∧ I64 x.l ∧ I64 x.y ∧ I64 x.h
/-- A lane: its header's numbers, and what it holds. -/
structure Lane where
  x : Int
  s : SlV Put
def Lane.cells (x : Lane) : List Value := [.int .i64 x.x, .slice x.s.a x.s.len x.s.cap]
def Lane.good (w : World) (x : Lane) : Prop := I64 x.x ∧ SlOk w 5 Put.cells x.s.a x.s.len x.s.cap x.s.l ∧ ∀ p, p ∈ x.s.l → p.ok
structure Page where
  s : SlV Lane
  t : Int
  f : Int
  l : Int
def Page.cells (x : Page) : List Value := [.slice x.s.a x.s.len x.s.cap, .int .i64 x.t, .int .i64 x.f, .int .i64 x.l]
def Page.good (w : World) (x : Page) : Prop := I64 x.t ∧ I64 x.f ∧ I64 x.l ∧ SlOk w 2 Lane.cells x.s.a x.s.len x.s.cap x.s.l ∧ ∀ y, y ∈ x.s.l → y.good w
theorem Lane.good.kp {w w' : World} {x : Lane} (h : x.good w) (k : Kp w w') : x.good w' := ⟨h.1, h.2.1.kp k, h.2.2⟩
theorem Page.good.kp {w w' : World} {x : Page} (h : x.good w) (k : Kp w w') : x.good w' := ⟨h.1, h.2.1, h.2.2.1, h.2.2.2.1.kp k, fun y hy => (h.2.2.2.2 y hy).kp k⟩
def putK : List DK := [.int .i64, .int .i64, .int .i64, .int .i64, .int .i64]
def laneK : List DK := [.int .i64, .sl 5 putK]
def pageK : List DK := [.sl 2 laneK, .int .i64, .int .i64, .int .i64]
theorem Put.of_cells {w : World} {cs : List Value} (h : dOk w putK cs) : ∃ x : Put, cs = x.cells ∧ x.ok := by
  obtain ⟨k, c1, rfl, w1, h⟩ := dOk_int h
  obtain ⟨n, c2, rfl, w2, h⟩ := dOk_int h
  obtain ⟨l, c3, rfl, w3, h⟩ := dOk_int h
  obtain ⟨y, c4, rfl, w4, h⟩ := dOk_int h
  obtain ⟨z, c5, rfl, w5, h⟩ := dOk_int h
  obtain rfl := dOk_nil h
  exact ⟨⟨k, n, l, y, z⟩, rfl, Open.i64_of w1, Open.i64_of w2, Open.i64_of w3, Open.i64_of w4, Open.i64_of w5⟩
theorem Lane.of_cells {w : World} {cs : List Value} (h : dOk w laneK cs) : ∃ x : Lane, cs = x.cells ∧ x.good w := by
  obtain ⟨x, c1, rfl, w1, h⟩ := dOk_int h
  obtain ⟨v, c2, rfl, h1, h⟩ := dOk_sl h
  obtain rfl := dOk_nil h
  obtain ⟨a, len, cap, l, rfl, hs, hq⟩ := sl_of_dOk (fun cs h => Put.of_cells h) h1
  exact ⟨⟨x, ⟨a, len, cap, l⟩⟩, rfl, Open.i64_of w1, hs, hq⟩
theorem Page.of_cells {w : World} {cs : List Value} (h : dOk w pageK cs) : ∃ x : Page, cs = x.cells ∧ x.good w := by
  obtain ⟨v, c0, rfl, h1, h⟩ := dOk_sl h
  obtain ⟨t, c1, rfl, w1, h⟩ := dOk_int h
  obtain ⟨f, c2, rfl, w2, h⟩ := dOk_int h
  obtain ⟨l, c3, rfl, w3, h⟩ := dOk_int h
  obtain rfl := dOk_nil h
  obtain ⟨a, len, cap, ls, rfl, hs, hq⟩ := sl_of_dOk (fun cs h => Lane.of_cells h) h1
  exact ⟨⟨⟨a, len, cap, ls⟩, t, f, l⟩, rfl, Open.i64_of w1, Open.i64_of w2, Open.i64_of w3, hs, hq⟩
theorem Open.deep_pages : Open.deepK Tryd.prog 8 23 = some [.sl 4 pageK] := by kernel_rfl
set_option maxRecDepth 100000 in
theorem Open.open_pages {H : Type} {enc : TypeId × Value → H} {w : World} {r : Reach} {b0 : Nat} {v : Value} {d : DataW H} {p : List MemPlace}
    (hv : Value.okWide Tryd.prog w r b0 23 v) (h : DataW.Trod enc Tryd.prog w 0 (fun _ => true) true 23 v d p) :
    ∃ x : SlV Page, v = x.v ∧ (SlOk w 4 Page.cells x.a x.len x.cap x.l ∧ ∀ y, y ∈ x.l → y.good w) := by
  have hd := Open.open_deep 8 Tryd.underlying23 Open.deep_pages hv h
  obtain ⟨v', vs, e, h1, h2⟩ := dOk_sl hd
  cases e
  obtain ⟨a, len, cap, l, rfl, hs, hq⟩ := sl_of_dOk (fun cs h => Page.of_cells h) h1
  exact ⟨⟨a, len, cap, l⟩, rfl, hs, hq⟩
end Go.Proofs.YteadhacoglcbfaaDoor
