/- Groups: a map of slices of numbers that the call itself has made. -/
import Derived.Test.YtkgfnkfgmnijbaaDoorFind9

import Derived.Test.YtkgfnkfgmnijbaaDoorMark4

import Derived.Maps.GroupsBeside

import Derived.Maps.RangeWalk

import Derived.RangeFuncWrites

namespace Go.Proofs.YtkgfnkfgmnijbaaDoor

open Go.RowKit Go.Shelf Go.Maps Go.ChangeShapes Go.WideElems

theorem law3 : Keyed Tryd.prog 3 := int_keyed Tryd.underlying3
theorem zeroS (w : World) : (zeroValue 23).run Tryd.prog w = .ok (.slice none 0 0) w := by kernel_rfl
theorem wf_int {n : Int} (h : I64 n) : (Lit.int .i64 n).wf = true := WalkArith.wf_i64 h
theorem key_int {n : Int} (h : I64 n) : keyOf Tryd.prog 3 (.int .i64 n) = some (.int .i64 n) := keyOf_int_mk Tryd.underlying3 (wf_int h)
theorem infoInt9 : (Tryd.prog.info? 3).map (fun i => (i.zero, i.size, i.bytes)) = some (some (.int .i64 0), 1, 8) := by kernel_rfl
abbrev DW := DataW Unit
def datI (zs : List Int) : DW := if zs = [] then .nil else .slice (lits .i64 zs) []
theorem lits_inj {zs zs' : List Int} (h : (lits .i64 zs : List DW) = lits .i64 zs') : zs = zs' := by
  unfold lits at h
  exact (List.map_inj_right (fun a b hab => by cases hab; rfl)).1 h
theorem dat_eq {w : World} {base : Nat} {e : TypeId} {v : Value} {zs ys : List Int} (h : w.ownsInts base e .i64 v zs) (hd : datI ys = rowDatum .i64 v zs) : zs = ys := by
  unfold datI at hd
  rcases h.datum (H := Unit) with ⟨h1, h2⟩ | h1
  · rw [h1] at hd
    split at hd
    · rename_i h3; rw [h2, h3]
    · cases hd
  · rw [h1] at hd
    split at hd
    · cases hd
    · injection hd with hd _
      exact (lits_inj hd).symm
structure GrpOk (D : DW) (f : Int → List Int) : Prop where
  map : IsMap D
  look : ∀ n, I64 n → D.atKey (.int .i64 n) .nil = datI (f n)
  has : ∀ n, I64 n → (has D (.int .i64 n) = true ↔ f n ≠ [])
theorem GrpOk.empty : GrpOk (.map []) (fun _ => []) := ⟨isMap_empty, fun _ _ => rfl, fun _ _ => by simp [Maps.has]⟩
theorem GrpOk.put {D : DW} {f : Int → List Int} (h : GrpOk D f) {n : Int} (hn : I64 n) {zs : List Int} (hz : zs ≠ []) (hm : IsMap (D.put (.int .i64 n) (.slice (lits .i64 zs) []))) : GrpOk (D.put (.int .i64 n) (.slice (lits .i64 zs) [])) (fun x => if x = n then zs else f x) := by
  refine ⟨hm, fun m hmw => ?_, fun m hmw => ?_⟩
  · by_cases e : m = n
    · subst e
      rw [atKey_put_same h.map (show WideAt.IsKeyLit (.int .i64 m) from trivial), if_pos rfl]
      unfold datI; rw [if_neg hz]
    · rw [atKey_put_other (fun hh => e (by cases hh; rfl)), if_neg e]; exact h.look m hmw
  · by_cases e : m = n
    · subst e
      rw [has_put_same h.map (show WideAt.IsKeyLit (.int .i64 m) from trivial), if_pos rfl]
      simp [hz]
    · rw [has_put_other (fun hh => e (by cases hh; rfl)), if_neg e]; exact h.has m hmw
/-- Block mb is a map of slices, f n at the key n; c bounds its size; its rows lie from base on, and none is a block of which No holds. -/
structure Grps (W : World) (base mb : Nat) (No : Nat → Prop) (c : Nat) (f : Int → List Int) : Prop where
  own : ∃ D : DW, W.ownsGroups Tryd.prog 3 base 3 .i64 mb c D ∧ GrpOk D f
  sh : W.Shuns mb No
theorem groups_lt {W : World} {base mb c : Nat} {D : DW} (h : W.ownsGroups Tryd.prog 3 base 3 .i64 mb c D) : mb < base ∧ mb < W.heap.size := by
  obtain ⟨es, clock, hb, _, _, _, hbb, _⟩ := h
  exact ⟨hbb, (Array.getElem?_eq_some_iff.1 hb).1⟩
theorem groups_row {W : World} {base mb c : Nat} {D : DW} (h : W.ownsGroups Tryd.prog 3 base 3 .i64 mb c D) {es : Array MapEntry} {clock : Nat} (hb : W.heap[mb]? = some (.map es clock)) {x : MapEntry} (hx : x ∈ es.toList) {g : Nat} (hg : x.val.ownBlock = some g) :
    base ≤ g ∧ g < W.heap.size ∧ ∃ o : Obj, W.heap[g]? = some o ∧ o.isCells = true := by
  obtain ⟨es', clock', hb', F, _⟩ := h
  obtain ⟨rfl, rfl⟩ : es' = es ∧ clock' = clock := by rw [hb'] at hb; simpa using hb
  obtain ⟨y, hy⟩ := F.reads x hx
  obtain ⟨z, hz, _⟩ := rd_val hy
  obtain ⟨zs, hoi, _⟩ := rowElem_inv hz
  have hl := hoi.1.lt g hg
  refine ⟨hl.1, hl.2, ?_⟩
  rcases hoi.1.2 with ⟨hv, _⟩ | ⟨g', cap, cur, hv, _, hh, _⟩
  · rw [hv] at hg; cases hg
  · rw [hv] at hg
    obtain rfl : g' = g := by simpa [Value.ownBlock] using hg
    exact ⟨_, hh, rfl⟩
theorem Grps.made {W : World} {mb base : Nat} (h : W.heap[mb]? = some (.map #[] 0)) (hb : mb < base) (No : Nat → Prop) : Grps W base mb No 0 (fun _ => []) :=
  ⟨⟨.map [], ⟨#[], 0, h, ⟨by simp, MapKept.stamped_empty 0, by simp⟩, Nat.le_refl _, rfl, hb, by simp, by simp⟩, GrpOk.empty⟩, fun es clock hb' x hx => by
    rw [h] at hb'
    cases hb'
    simp at hx⟩
theorem Grps.lt {W : World} {base mb c : Nat} {No : Nat → Prop} {f : Int → List Int} (h : Grps W base mb No c f) : mb < base ∧ mb < W.heap.size := by
  obtain ⟨⟨D, h, _⟩, _⟩ := h
  exact groups_lt h
theorem Grps.kept {W W' : World} {base mb c : Nat} {No : Nat → Prop} {f : Int → List Int} {row : Option Nat} (h : Grps W base mb No c f) (hg : W.grownBy W' row) (hb : some mb ≠ row)
    (hr : ∀ j, row = some j → j < base ∨ No j ∨ ∃ o : Obj, W.heap[j]? = some o ∧ o.isCells = false) : Grps W' base mb No c f := by
  obtain ⟨⟨D, ho, hok⟩, hs⟩ := h
  refine ⟨⟨D, ho.kept hg hb (fun es clock hb' x hx => ?_), hok⟩, hs.kept hg (groups_lt ho).2 hb⟩
  cases hx' : x.val.ownBlock with
  | none => exact .inl rfl
  | some g =>
    refine .inr fun e => ?_
    obtain ⟨h1, _, o, h3, h4⟩ := groups_row ho hb' hx hx'
    rcases hr g e.symm with hj | hj | ⟨o', h5, h6⟩
    · omega
    · exact hs es clock hb' x hx g hx' hj
    · rw [h3] at h5; cases h5; rw [h4] at h6; cases h6
theorem Grps.kp {W W' : World} {base mb c : Nat} {No : Nat → Prop} {f : Int → List Int} (h : Grps W base mb No c f) (k : Kp W W') : Grps W' base mb No c f := h.kept k.grownBy (by simp) (fun j e => by cases e)
theorem Grps.reno {W : World} {base mb c : Nat} {No No' : Nat → Prop} {f : Int → List Int} (h : Grps W base mb No c f) (hn : ∀ g, No' g → No g ∨ W.heap.size ≤ g) : Grps W base mb No' c f := by
  obtain ⟨⟨D, ho, hok⟩, hs⟩ := h
  exact ⟨⟨D, ho, hok⟩, hs.reno ho hn⟩
/-- The way back. -/
def Back (w : World) (base mb : Nat) (No : Nat → Prop) (c : Nat) (f : Int → List Int) (n : Int) (v : Value) : Prop :=
  ∀ (w1 : World) (v' : Value) (p : Int), w.grownBy w1 v.ownBlock → w1.ownsInts base 3 .i64 v' (f n ++ [p]) → (v'.ownBlock = v.ownBlock ∨ ∃ g, v'.ownBlock = some g ∧ w.heap.size ≤ g) →
    ∃ w2, (Instr.mapUpdate 69 (.map (some mb)) (.int .i64 n) v').run Tryd.prog w1 = .ok () w2 ∧ Grps w2 base mb No (c + 1) (fun x => if x = n then f n ++ [p] else f x) ∧ w1.grownBy w2 (some mb)
theorem Grps.look {w : World} {base mb c : Nat} {No : Nat → Prop} {f : Int → List Int} (h : Grps w base mb No c f) (hc : c < 1000000) (hNo : ∀ g, No g → g < w.heap.size) {n : Int} (hn : I64 n) :
    ∃ v, (Instr.lookup 69 (.map (some mb)) (.int .i64 n) false).run Tryd.prog w = .ok v w ∧ w.ownsInts base 3 .i64 v (f n) ∧ (∀ g, v.ownBlock = some g → ¬ No g) ∧ Back w base mb No c f n v := by
  obtain ⟨⟨D, ho, hok⟩, hs⟩ := h
  have hcm : c < maxLen := by unfold maxLen; omega
  obtain ⟨v, zs, hrun, hat, hoi, hzl, hback⟩ := ho.at law3 Tryd.underlying69 (zeroS w) hcm (key_int hn)
  obtain rfl := dat_eq hoi ((hok.look n hn).symm.trans hat)
  have hsh : ∀ g, v.ownBlock = some g → ¬ No g := by
    obtain ⟨es, clock, hb, F, _⟩ := ho
    rcases Maps.fit_look false law3 Tryd.underlying69 (zeroS w) hb F (key_int hn) with ⟨hrun', _, _⟩ | ⟨e0, y, hm0, _, hrun', _, _, _⟩
    · rw [hrun] at hrun'
      obtain rfl : v = .slice none 0 0 := by simpa using hrun'
      intro g hg'
      cases hg'
    · rw [hrun] at hrun'
      obtain rfl : v = e0.val := by simpa using hrun'
      exact fun g hg' => hs es clock hb e0 hm0 g hg'
  refine ⟨v, hrun, hoi, hsh, ?_⟩
  intro w1 v' p hg hown' hloc
  obtain ⟨w2, hrun2, r1, r2⟩ := hback w1 v' _ hg hown' (by simp; omega) hloc
  rw [hown'.datum_pos (by simp)] at r1
  have hm2 : IsMap (D.put (.int .i64 n) (.slice (lits .i64 (f n ++ [p])) [])) := by
    obtain ⟨es, clock, _, _, _, e, _⟩ := r1
    exact ⟨_, e⟩
  refine ⟨w2, hrun2, ⟨⟨_, r1, hok.put (zs := f n ++ [p]) hn (by simp) hm2⟩, ?_⟩, r2⟩
  obtain ⟨es, clock, hb, F, hs', _, hbb, _⟩ := ho
  have hblt : mb < w.heap.size := (Array.getElem?_eq_some_iff.1 hb).1
  have hb1 : w1.heap[mb]? = some (.map es clock) := (hg.block mb hblt (fun e1 => by have := (hoi.1.lt mb e1.symm).1; omega)).trans hb
  obtain ⟨es', clock', hb2, hwho⟩ := stored_who law3 Tryd.underlying69 hb1 F (Nat.lt_of_le_of_lt hs' hcm) (key_int hn) hrun2
  intro es2 clock2 hb2' y hy g hyg
  obtain ⟨rfl, rfl⟩ : es' = es2 ∧ clock' = clock2 := by rw [hb2] at hb2'; simpa using hb2'
  rcases hwho y hy with ⟨hy0, _⟩ | ⟨_, hval⟩
  · exact hs es clock hb y hy0 g hyg
  · rcases hloc with e | ⟨g', e, hge⟩
    · exact hsh g (e ▸ hval ▸ hyg)
    · rw [hval, e] at hyg
      cases hyg
      exact fun hno => by have := hNo _ hno; omega
theorem lookW {o : Oper} {a : Act} {w : World} {K : Act → World → Prop} {Q : Exit → Act → World → Prop} (m x : Operand) (ho : o.op = Op.lookup 69 m x false)
    {base mb c : Nat} {No : Nat → Prop} {f : Int → List Int} {n : Int} (h : Grps w base mb No c f) (hc : c < 1000000) (hNo : ∀ g, No g → g < w.heap.size) (hn : I64 n) (hm : a.eval m = .map (some mb)) (hx : a.eval x = .int .i64 n)
    (hK : ∀ v, w.ownsInts base 3 .i64 v (f n) → (∀ g, v.ownBlock = some g → ¬ No g) → Back w base mb No c f n v → K (a.put o.dst v) w) : o.wp Tryd.prog a w K Q := by
  obtain ⟨v, hrun, hoi, hsh, hback⟩ := h.look hc hNo hn
  unfold Oper.wp
  simp [execOp, ho, hm, hx, hrun, Result.andThen]
  exact hK _ hoi hsh hback
theorem appendAtW {o : Oper} {a : Act} {w : World} {K : Act → World → Prop} {Q : Exit → Act → World → Prop} (s x : Operand)
    (ho : o.op = .call { callee := .builtin .append, args := #[s, x], argTypes := #[23, 23] }) {base : Nat} {v : Value} {zs : List Int} (hrow : w.ownsInts base 3 .i64 v zs) (hs : a.eval s = v) {p : Int} (hp : I64 p) {b : Nat} {t' : TypeId} (hb : Blk w b [.int .i64 p] t')
    (hx : a.eval x = .slice (some ⟨b, 0, none⟩) 1 1) (hlen : zs.length ≤ 1000000) (hbase : base ≤ w.heap.size)
    (h : ∀ v' w', w'.ownsInts base 3 .i64 v' (zs ++ [p]) → w.grownBy w' v.ownBlock → (v'.ownBlock = v.ownBlock ∨ v'.ownBlock = some w.heap.size) → K (a.put o.dst v') w') : o.wp Tryd.prog a w K Q := by
  obtain ⟨i0, hi, hz0, hz1, hz2⟩ := info_parts infoInt9
  obtain ⟨v', w', hr, h2, h3, h4, h5⟩ := run_append_own_at (P := Tryd.prog) (w := w) base 23 o.type 3 i0 (.int .i64 0) 1 8 Tryd.underlying23 hi hz0 hz1 hz2 rfl (by decide) v zs.length _ hrow.1 ⟨b, 0, none⟩ 1 1 [.int .i64 p] rfl
    (fun j u hu => by
      have hadd : (⟨b, 0, none⟩ : Addr).add j = ⟨b, j, none⟩ := by unfold Addr.add; split <;> simp_all
      rw [hadd]; exact hb.cell j hu) (fun u hu => by simp at hu; subst hu; rfl) (by unfold maxLen; omega) (by omega) hbase
  unfold Oper.wp
  simp [execOp, ho, resolve, invoke, builtin, hs, hx, hr, Result.andThen]
  exact h v' w' (hrow.appended h2 (wf_int hp)) h3 h5
theorem mapBackW {o : Oper} {a : Act} {w : World} {K : Act → World → Prop} {Q : Exit → Act → World → Prop} (m x v : Operand) (ho : o.op = Op.mapUpdate 69 m x v)
    {w0 : World} {base mb c : Nat} {No : Nat → Prop} {f : Int → List Int} {n p : Int} {u v' : Value} (hback : Back w0 base mb No c f n u) (hm : a.eval m = .map (some mb)) (hx : a.eval x = .int .i64 n) (hv : a.eval v = v')
    (hg : w0.grownBy w u.ownBlock) (hown' : w.ownsInts base 3 .i64 v' (f n ++ [p])) (hloc : v'.ownBlock = u.ownBlock ∨ ∃ g, v'.ownBlock = some g ∧ w0.heap.size ≤ g)
    (hK : ∀ w2, Grps w2 base mb No (c + 1) (fun x => if x = n then f n ++ [p] else f x) → w.grownBy w2 (some mb) → K (a.put o.dst undef) w2) : o.wp Tryd.prog a w K Q := by
  obtain ⟨w2, hrun, r1, r2⟩ := hback w v' p hg hown' hloc
  unfold Oper.wp
  simp [execOp, ho, hm, hx, hv, hrun, Result.andThen]
  exact hK _ r1 r2
end Go.Proofs.YtkgfnkfgmnijbaaDoor
