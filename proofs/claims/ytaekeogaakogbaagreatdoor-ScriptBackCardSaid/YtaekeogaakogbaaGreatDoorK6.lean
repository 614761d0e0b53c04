/- The document's steps of a script: 24 cells. -/
import Derived.Test.YtaekeogaakogbaaGreatDoorK4

import Derived.Test.YtaekeogaakogbaaGreatDoorK5

import Derived.Test.YtaekeogaakogbaaGreatDoorJ14

namespace Go.Proofs.YtaekeogaakogbaaGreatDoor

open Go.ChangeShapes Go.WideShapes Go.ChangeAt Go.RowKit Go.Shelf

theorem put_cells : ∀ (cs old pre post : List Value) (k : Nat), cs.length = old.length → (cs.zipIdx k).foldl (fun (a : Array Value) (x : Value × Nat) => a.setIfInBounds (pre.length + (x.2 - k)) x.1) (pre ++ old ++ post).toArray = (pre ++ cs ++ post).toArray
  | [], old, pre, post, k, h => by
    have : old = [] := List.eq_nil_of_length_eq_zero h.symm
    subst this; simp
  | c :: cs, [], pre, post, k, h => by simp at h
  | c :: cs, o :: old, pre, post, k, h => by
    have ih := put_cells cs old (pre ++ [c]) post (k + 1) (by simpa using h)
    rw [List.zipIdx_cons, List.foldl_cons]
    have e1 : (pre ++ o :: old ++ post).toArray.setIfInBounds (pre.length + (k - k)) c = (pre ++ [c] ++ old ++ post).toArray := by
      rw [Nat.sub_self, Nat.add_zero, List.setIfInBounds_toArray]
      congr 1
      rw [List.append_assoc, List.set_append_right _ _ (Nat.le_refl _), Nat.sub_self]
      simp
    simp only at e1 ⊢
    rw [e1]
    have e2 : (pre ++ c :: cs ++ post).toArray = (pre ++ [c] ++ cs ++ post).toArray := by simp
    rw [e2, ← ih]
    have hcong : ∀ (l : List (Value × Nat)) (a : Array Value), (∀ x ∈ l, k + 1 ≤ x.2) → l.foldl (fun (a : Array Value) (x : Value × Nat) => a.setIfInBounds (pre.length + (x.2 - k)) x.1) a = l.foldl (fun (a : Array Value) (x : Value × Nat) => a.setIfInBounds ((pre ++ [c]).length + (x.2 - (k + 1))) x.1) a := by
      intro l
      induction l with
      | nil => intro a _; rfl
      | cons x l ihl =>
        intro a hx
        rw [List.foldl_cons, List.foldl_cons]
        have hx0 := hx x List.mem_cons_self
        rw [show pre.length + (x.2 - k) = (pre ++ [c]).length + (x.2 - (k + 1)) by simp; omega]
        exact ihl _ (fun y hy => hx y (List.mem_cons_of_mem _ hy))
    exact hcong _ _ (fun x hx => (List.le_snd_of_mem_zipIdx hx))
theorem fill_part {place : Nat → Option (Nat × Nat)} (pre old post cs : List Value) {i : Nat} {v : Value} {rest : List (Nat × Value)} (hv : v.cells = cs.toArray) (hp : place i = some (pre.length, cs.length)) (hl : cs.length = old.length) :
    Instr.fill place (pre ++ old ++ post).toArray ((i, v) :: rest) = Instr.fill place (pre ++ cs ++ post).toArray rest := by
  rw [Instr.fill, hp]
  have h := put_cells cs old pre post 0 hl
  have hc : ¬ ((v.cells.size ≠ cs.length || pre.length + v.cells.size > (pre ++ old ++ post).toArray.size) = true) := by
    rw [hv]; simp; omega
  have hz : cs.toArray.zipIdx = cs.zipIdx.toArray := by
    apply Array.ext
    · simp
    · intro j h1 h2; simp
  simp only [hc]
  rw [hv]
  simp only [Nat.sub_zero] at h
  rw [hz]
  simp only [Bool.false_eq_true, if_false]
  congr 1
  rw [← h]
  simp
theorem bdRow {ops : Array Oper} {rest : List Oper} {op : Oper} {a : Act} {w : World} {Q : Exit → Act → World → Prop} (hgd : op.guard = none) (t : TypeId) (ps : Array (Nat × Operand)) (ho : op.op = .build t ps)
    {cells : List Value} (hb : Tryz.prog.built t (ps.map fun (i, x) => (i, a.eval x)).toList = some cells.toArray) (h : wpList Tryz.prog ops Q rest (a.put op.dst (.agg cells.toArray)) w) : wpList Tryz.prog ops Q (op :: rest) a w :=
  wpList_plain hgd fun _ hK => by
    unfold Oper.wp execOp
    simp only [ho, Sem.run_bind, run_build w t _ _ hb, Result.andThen_ok, Sem.run_pure]
    exact hK _ _ h
theorem bdRow2 {ops : Array Oper} {rest : List Oper} {op : Oper} {a : Act} {w : World} {Q : Exit → Act → World → Prop} (hgd : op.guard = none) (t : TypeId) (i0 : Nat) (x0 : Operand) (i1 : Nat) (x1 : Operand) (ho : op.op = .build t #[(i0, x0), (i1, x1)])
    {cells : List Value} {v0 v1 : Value} (e0 : a.eval x0 = v0) (e1 : a.eval x1 = v1) (hb : Tryz.prog.built t [(i0, v0), (i1, v1)] = some cells.toArray) (h : wpList Tryz.prog ops Q rest (a.put op.dst (.agg cells.toArray)) w) : wpList Tryz.prog ops Q (op :: rest) a w :=
  bdRow hgd t _ ho (by rw [← e0, ← e1] at hb; simpa using hb) h
theorem bdRow3 {ops : Array Oper} {rest : List Oper} {op : Oper} {a : Act} {w : World} {Q : Exit → Act → World → Prop} (hgd : op.guard = none) (t : TypeId) (i0 : Nat) (x0 : Operand) (i1 : Nat) (x1 : Operand) (i2 : Nat) (x2 : Operand) (ho : op.op = .build t #[(i0, x0), (i1, x1), (i2, x2)])
    {cells : List Value} {v0 v1 v2 : Value} (e0 : a.eval x0 = v0) (e1 : a.eval x1 = v1) (e2 : a.eval x2 = v2) (hb : Tryz.prog.built t [(i0, v0), (i1, v1), (i2, v2)] = some cells.toArray) (h : wpList Tryz.prog ops Q rest (a.put op.dst (.agg cells.toArray)) w) : wpList Tryz.prog ops Q (op :: rest) a w :=
  bdRow hgd t _ ho (by rw [← e0, ← e1, ← e2] at hb; simpa using hb) h
/-- A load, a store of many cells in a region that draws its order. -/
theorem ldRowX {ty : TypeId} {n : Nat} (R : RowT ty n) {o : Oper} {a : Act} {w : World} {K : Act → World → Prop} {Q : Exit → Act → World → Prop} {vs : List Value} (x : Operand) (ho : o.op = .load ty x)
    {b off : Nat} (hr : w.rangeAt b off vs) (hv : vs.length = n) (hx : a.eval x = .pointer (some ⟨b, off, none⟩)) (h : K (a.put o.dst (.agg vs.toArray)) w) : o.wp Tryz.prog a w K Q := by
  obtain ⟨d, hu, hd⟩ := R.desc
  exact wp_load_mid ty x ho b off hx vs d hr hu hd (by rw [hv]; exact R.size) h
/-- A store of many cells from a place of a block on. -/
theorem stRowAtX {ty : TypeId} {n : Nat} (R : RowT ty n) {o : Oper} {a : Act} {w : World} {K : Act → World → Prop} {Q : Exit → Act → World → Prop} {vs : List Value} (x y : Operand) (ho : o.op = .store ty x y)
    {b off : Nat} {cs : List Value} {t : TypeId} (hb : Blk w b cs t) (hc : off + n ≤ cs.length) (hv : vs.length = n) (h1 : ∀ v ∈ vs, v.oneCell' = true) (hx : a.eval x = .pointer (some ⟨b, off, none⟩)) (hy : a.eval y = .agg vs.toArray)
    (h : ∀ w', Blk w' b (cs.take off ++ vs ++ cs.drop (off + vs.length)) t → (∀ {b' : Nat} {cs : List Value} {t' : TypeId}, b' ≠ b → Blk w b' cs t' → Blk w' b' cs t') → (∀ {W : World}, W.heap.size ≤ b → Kp W w → Kp W w') → w'.heap.size = w.heap.size → K (a.put o.dst undef) w') : o.wp Tryz.prog a w K Q :=
  wp_store_mid ty x y ho b off _ hx hy (fun j hj => by
      rw [List.size_toArray, hv] at hj
      exact ⟨by rw [hb.cell (off + j) (List.getElem?_eq_getElem (by omega))]; rfl, hb.free _⟩) (by rw [List.size_toArray, hv]; exact R.size) (all_oneCell_toArray h1)
    (h _ (Blk.setCells_at _ _ _ _ (by show off + vs.length ≤ _; omega) hb) (fun hne k => k.away hne _ _ _) (fun hle k => k.setCells hle _ _) (setCells_size _ _ _))
theorem rowStep : RowT 54 24 := ⟨⟨_, Tryz.underlying54, rfl⟩, by kernel_rfl⟩
/-- A step's cells. -/
def stepL (J : List Value) (last : Int) (ok : Bool) : List Value := J ++ [.int .i64 last, .bool ok]
theorem stepL_len {J : List Value} (h : J.length = 22) (last : Int) (ok : Bool) : (stepL J last ok).length = 24 := by unfold stepL; rw [List.length_append, h]; rfl
theorem stepL_one {J : List Value} (h : ∀ v ∈ J, v.oneCell' = true) (last : Int) (ok : Bool) : ∀ v ∈ stepL J last ok, v.oneCell' = true := fun v hv => by
  unfold stepL at hv
  rcases List.mem_append.1 hv with hv | hv
  · exact h v hv
  · simp only [List.mem_cons, List.not_mem_nil, or_false] at hv
    rcases hv with rfl | rfl <;> rfl
def stepZ : List Value := stepL jobZ 0 false
theorem stepZ_len : stepZ.length = 24 := rfl
theorem stepZ_one : ∀ v ∈ stepZ, v.oneCell' = true := stepL_one jobZ_one 0 false
theorem built_step {J : List Value} (hJ : J.length = 22) (last : Int) (ok : Bool) : Tryz.prog.built 54 [(0, .agg J.toArray), (1, .int .i64 last), (2, .bool ok)] = some (stepL J last ok).toArray := by
  have h : ∀ parts, Tryz.prog.built 54 parts = Instr.fill (fun i => #[(0, 22), (22, 1), (23, 1)][i]?) stepZ.toArray parts := fun parts => by kernel_rfl
  have z : stepZ = jobZ ++ [.int .i64 0, .bool false] := rfl
  rw [h, z]
  have e1 := fill_part (place := fun i => #[(0, 22), (22, 1), (23, 1)][i]?) [] jobZ [.int .i64 0, .bool false] J (i := 0) (v := .agg J.toArray) (rest := [(1, .int .i64 last), (2, .bool ok)]) rfl (by rw [hJ]; rfl) (by rw [hJ]; rfl)
  have e2 := fill_part (place := fun i => #[(0, 22), (22, 1), (23, 1)][i]?) J [.int .i64 0] [.bool false] [.int .i64 last] (i := 1) (v := .int .i64 last) (rest := [(2, .bool ok)]) rfl (by rw [hJ]; rfl) rfl
  have e3 := fill_part (place := fun i => #[(0, 22), (22, 1), (23, 1)][i]?) (J ++ [.int .i64 last]) [.bool false] [] [.bool ok] (i := 2) (v := .bool ok) (rest := []) rfl (by rw [List.length_append, hJ]; rfl) rfl
  rw [List.nil_append, List.nil_append] at e1
  rw [List.append_assoc, List.append_assoc] at e2
  rw [List.append_nil, List.append_nil, List.append_assoc, List.append_assoc] at e3
  unfold stepL
  exact (e1.trans (e2.trans e3)).trans rfl
/-- What a head's line makes of a job. -/
def headD (j : JobD) (last : Int) (k : Nat) (ns : List Int) : Option JobD :=
  if (k : Int) ≤ last then none
  else if k = 18 then (if ns = [] then some { j with bal := true } else none)
  else match ns with
    | [n] => if n = 0 then none else some { j with g := j.g.set k n }
    | _ => none
theorem jobL_set {g : List Int} {b : Bool} {iv nv fv : Value} {k : Nat} (hk : k < g.length) (n : Int) : (jobL g b iv nv fv).set k (.int .i64 n) = jobL (g.set k n) b iv nv fv := by
  unfold jobL intsG
  rw [List.set_append_left _ _ (by rw [List.length_map]; exact hk), List.map_set]
theorem jobL_bal {g : List Int} {b : Bool} {iv nv fv : Value} (hg : g.length = 18) (c : Bool) : (jobL g b iv nv fv).set 18 (.bool c) = jobL g c iv nv fv := by
  unfold jobL
  have hl : (intsG g).length = 18 := by rw [intsG_len, hg]
  rw [List.set_append_right _ _ (by rw [hl]; exact Nat.le_refl _), hl]
  rfl
end Go.Proofs.YtaekeogaakogbaaGreatDoor
