/- Marks: Of. -/
import Derived.Test.YtiimbkiiffimiaaMark3

namespace Go.Proofs.Ytiimbkiiffimiaa

open Go.ChangeShapes Go.WideShapes Go.ChangeAt Go.RowKit Go.Shelf

attribute [local go_sem] Oper.semAt_some

structure Mk where
  t : Int
  f : Int
  l : Int
def encM (x : Mk) : List Value := [.int .i64 x.t, .int .i64 x.f, .int .i64 x.l]
theorem infoM : (Try.prog.info? 30).map (fun i => (i.zero, i.size, i.bytes)) = some (some (.agg #[.int .i64 0, .int .i64 0, .int .i64 0]), 3, 24) := by kernel_rfl
theorem infoM2 : (Try.prog.info? 31).map (fun i => (i.zero, i.size, i.bytes)) = some (some (.agg #[.int .i64 0, .int .i64 0, .int .i64 0]), 3, 24) := by kernel_rfl
def stM (pg : Nat → List Int) (s : List Mk × Int) (k : Nat) : List Mk × Int := (s.1 ++ [⟨s.2, (pg k).headD s.2, (pg k).getLastD s.2⟩], (pg k).getLastD s.2)
def runM {N : Nat} (pg : Nat → List Int) (pre : List (Fin N)) : List Mk × Int := pre.foldl (fun s x => stM pg s x.val) ([], -1)
theorem runM_snoc {N : Nat} (pg : Nat → List Int) (pre : List (Fin N)) (x : Fin N) : runM pg (pre ++ [x]) = stM pg (runM pg pre) x.val := by simp [runM, List.foldl_append]
theorem runM_len {N : Nat} (pg : Nat → List Int) (pre : List (Fin N)) : ∀ s : List Mk × Int, (pre.foldl (fun s x => stM pg s x.val) s).1.length = s.1.length + pre.length := by
  induction pre with
  | nil => intro s; rfl
  | cons x pre ih => intro s; rw [List.foldl_cons, ih]; simp [stM]; omega
theorem runM_length {N : Nat} (pg : Nat → List Int) (pre : List (Fin N)) : (runM pg pre).1.length = pre.length := by
  unfold runM; rw [runM_len]; simp
def lastK (pg : Nat → List Int) : Nat → Int
  | 0 => -1
  | k + 1 => (pg k).getLastD (lastK pg k)
def mkAt (pg : Nat → List Int) (k : Nat) : Mk := ⟨lastK pg k, (pg k).headD (lastK pg k), lastK pg (k + 1)⟩
theorem runM_firsts (pg : Nat → List Int) (N k : Nat) (hk : k ≤ N) : runM pg (firsts N k) = ((List.range k).map (mkAt pg), lastK pg k) := by
  induction k with
  | zero => rw [firsts_zero]; rfl
  | succ k ih =>
    rw [firsts_succ (by omega), runM_snoc, ih (by omega), List.range_succ, List.map_append]
    rfl
/-- The piece k of the columns, and its marks. -/
def chunkL (cs : List Col) (P k : Nat) : List Col := (cs.take (k * P + min P (cs.length - k * P))).drop (k * P)
theorem chunkL_length {cs : List Col} {P k : Nat} (h : k * P < cs.length) : (chunkL cs P k).length = min P (cs.length - k * P) := by
  unfold chunkL; rw [List.length_drop, List.length_take]; omega
def pgs (l : List Item) (cs : List Col) (P k : Nat) : List Int := pageL l (chunkL cs P k)
def ofL (l : List Item) (cs : List Col) (P : Nat) : List Mk := (List.range (nCh cs.length P)).map (mkAt (pgs l cs P))

/-- Page of a piece. -/
theorem pagePiece (a : Option Addr) (cap ccap : Nat) (b off : Nat) (l : List Item) (cs : List Col) (P k : Nat) (w : World) (hl : SlOk w 7 Item.cells a l.length cap l) (hc : SlOk w 6 Col.cells (some ⟨b, off, none⟩) cs.length ccap cs) (h4 : l.length ≤ 100) (h6 : cs.length ≤ 60) (hk : k * P < cs.length) :
    Calls Try.prog 11 #[.slice a l.length cap, chV b off cs.length P k] w fun e w' => ∃ v, e = .returned v ∧ Row w' w.heap.size 3 1 enc1 v (pgs l cs P k) ∧ Kp w w' := by
  have hlc := hc.2.1
  have hp : SlOk w 6 Col.cells (some ⟨b, off + k * P * 6, none⟩) (chunkL cs P k).length (min P (cs.length - k * P)) (chunkL cs P k) := hc.part (by omega) (by omega) (by omega) (by omega)
  have h := page_any a _ cap _ l (chunkL cs P k) w hl hp h4 (by rw [chunkL_length hk]; omega)
  rw [chunkL_length hk] at h
  exact h
theorem Kp.others {W w : World} (k : Kp W w) : KeepsOthers W w := KeepsOthers.of_grownBy k.grownBy (by intro j o e; cases e)

theorem Row.base {α : Type} {w : World} {base base' n : Nat} {e : TypeId} {enc : α → List Value} {v : Value} {l : List α} (h : Row w base e n enc v l) (hb : base' ≤ base) : Row w base' e n enc v l := by
  obtain ⟨h0, h1⟩ := h
  refine ⟨h0, h1.imp id ?_⟩
  rintro ⟨g, cap, cur, a1, a2, a3⟩
  exact ⟨g, cap, cur, a1, Nat.le_trans hb a2, a3⟩

theorem Row.setFar {α : Type} {w : World} {base n : Nat} {e : TypeId} {enc : α → List Value} {v : Value} {l : List α} (h : Row w base e n enc v l) {p : Addr} (hp : ∀ k, v.ownBlock = some k → k ≠ p.block) (u : Value) : Row (w.setCell p u) base e n enc v l := by
  refine ⟨h.1, ?_⟩
  rcases h.2 with hh | ⟨g, cap, cur, rfl, hb, hg, rest⟩
  · exact .inl hh
  · exact .inr ⟨g, cap, cur, rfl, hb, (Below.heap_setCell _ _ _ _ (hp g rfl)).trans hg, rest⟩

set_option maxRecDepth 100000 in
set_option maxHeartbeats 2000000 in
theorem markOf_yes (a ca : Option Addr) (cap ccap : Nat) (l : List Item) (cs : List Col) (P : Nat) (w : World) (hl : SlOk w 7 Item.cells a l.length cap l) (hc : SlOk w 6 Col.cells ca cs.length ccap cs) (h4 : l.length ≤ 100) (h6 : cs.length ≤ 60) (hP : 1 ≤ P) (hP2 : P ≤ 9223372036854775807) :
    Calls Try.prog 6 #[.slice a l.length cap, .slice ca cs.length ccap, .int .i64 (P : Int)] w fun e w' => ∃ v, e = .returned v ∧ Row w' w.heap.size 30 3 encM v (ofL l cs P) ∧ Kp w w' := by
  obtain ⟨b, off, ha⟩ : ∃ b off, cs.length = 0 ∨ ca = some ⟨b, off, none⟩ := by
    rcases hc.2.2.2 with e | ⟨b, off, e, _⟩
    · exact ⟨0, 0, .inl (by rw [e]; rfl)⟩
    · exact ⟨b, off, .inr e⟩
  have hcl := hc.2.1
  have hcm := hc.2.2.1
  unfold maxLen at hcm
  have CP : Hid (∀ (k : Nat) (w' : World), k < nCh cs.length P → Kp w w' → Calls Try.prog 11 #[.slice a l.length cap, chV b off cs.length P k] w' fun e w'' => ∃ v, e = .returned v ∧ Row w'' w'.heap.size 3 1 enc1 v (pgs l cs P k) ∧ Kp w' w'') := Lib.hid (fun k w' hk kk => by
    have hlt := (lt_nCh hP).1 hk
    rcases ha with h0 | rfl
    · omega
    · exact pagePiece a cap ccap b off l cs P k w' (hl.kp kk) (hc.kp kk) h4 h6 hlt)
  have HN : Hid (nCh cs.length P ≤ 60) := Lib.hid (by
    unfold nCh
    rw [← Nat.lt_add_one_iff, Nat.div_lt_iff_lt_mul (by omega)]
    have : 61 * P = P + 60 * P := by omega
    have : 60 ≤ 60 * P := by omega
    omega)
  have HA := Lib.hid ha
  have hP0 : ¬ P = 0 := by omega
  have j1 : decide ((P : Int) < 1) = false := decide_eq_false (by omega)
  clear ha hl hc
  refine calls_marks Try.func6 rfl ?_
  simp only [Try.ntmps6, List.size_toArray, List.length_cons, List.length_nil, Nat.reduceAdd, Nat.reduceSub, Array.replicate_succ, Array.replicate_zero, List.push_toArray, List.append_toArray, List.nil_append, List.cons_append]
  go_wp2_with fail
  refine (chunk_any ca cs.length ccap (P : Int) _ (by omega)).mono ?_
  rintro e w3 ⟨rfl, hw3⟩
  go_wp2
  clear hw3
  refine named_world (F := fun W => Blk W w.heap.size [.slice a l.length cap] 22 ∧ Blk W (w.heap.size + 1) [.slice none 0 0] 25 ∧ Blk W (w.heap.size + 2) [.int .i64 (-1)] 3 ∧ Blk W (w.heap.size + 3) [.slice ca cs.length ccap] 23 ∧ Blk W (w.heap.size + 4) [.int .i64 (P : Int)] 3 ∧ Kp w W ∧ w.heap.size + 5 = W.heap.size) ⟨(by (repeat (first | with_reducible assumption | ((with_reducible refine Blk.newL ?_ ?_); (focus (first | (simp; done) | omega)); rfl) | with_reducible refine Blk.drew ?_ | with_reducible refine Blk.drewN ?_ _ | with_reducible refine Blk.alloc ?_ _ | ((with_reducible refine Blk.other ?_ ?_ _); rotate_left; (focus (first | with_reducible assumption | omega | (simp; done) | (simp; omega))))))), (by (repeat (first | with_reducible assumption | ((with_reducible refine Blk.newL ?_ ?_); (focus (first | (simp; done) | omega)); rfl) | with_reducible refine Blk.drew ?_ | with_reducible refine Blk.drewN ?_ _ | with_reducible refine Blk.alloc ?_ _ | ((with_reducible refine Blk.other ?_ ?_ _); rotate_left; (focus (first | with_reducible assumption | omega | (simp; done) | (simp; omega))))))), (by (repeat (first | with_reducible assumption | ((with_reducible refine Blk.newL ?_ ?_); (focus (first | (simp; done) | omega)); rfl) | with_reducible refine Blk.drew ?_ | with_reducible refine Blk.drewN ?_ _ | with_reducible refine Blk.alloc ?_ _ | ((with_reducible refine Blk.other ?_ ?_ _); rotate_left; (focus (first | with_reducible assumption | omega | (simp; done) | (simp; omega))))))), (by (repeat (first | with_reducible assumption | ((with_reducible refine Blk.newL ?_ ?_); (focus (first | (simp; done) | omega)); rfl) | with_reducible refine Blk.drew ?_ | with_reducible refine Blk.drewN ?_ _ | with_reducible refine Blk.alloc ?_ _ | ((with_reducible refine Blk.other ?_ ?_ _); rotate_left; (focus (first | with_reducible assumption | omega | (simp; done) | (simp; omega))))))), (by (repeat (first | with_reducible assumption | ((with_reducible refine Blk.newL ?_ ?_); (focus (first | (simp; done) | omega)); rfl) | with_reducible refine Blk.drew ?_ | with_reducible refine Blk.drewN ?_ _ | with_reducible refine Blk.alloc ?_ _ | ((with_reducible refine Blk.other ?_ ?_ _); rotate_left; (focus (first | with_reducible assumption | omega | (simp; done) | (simp; omega))))))), (by (repeat (first | with_reducible assumption | with_reducible exact Kp.refl _ | with_reducible refine Kp.drew ?_ | with_reducible refine Kp.drewN ?_ _ | with_reducible refine Kp.alloc ?_ _ | ((with_reducible refine Kp.setCell ?_ ?_ _); rotate_left; (focus (first | omega | (simp; done) | (simp; omega)))) | with_reducible refine Kp.trans ?_ (by assumption)))), by simp⟩ ?_
  rintro w4 ⟨bL, bO, bD, bC, bP, k4, z4⟩
  have hbl : ∀ b, chK (w.heap.size + 3) (w.heap.size + 4) b → b < w4.heap.size ∧ b ≠ w.heap.size + 1 ∧ b ≠ w.heap.size + 2 := by
    rintro b (rfl | rfl) <;> omega
  refine wp_rangeE (K := chK (w.heap.size + 3) (w.heap.size + 4)) (w0 := w4) rfl (enters_of Try.func14 (by kernel_rfl) rfl)
    (chunk_stops 99 (by decide) (w.heap.size + 3) (w.heap.size + 4) ca b off cs.length ccap P HA.out hP hP2 hcl hcm h6 w4 (bC.cell 0 rfl) (bP.cell 0 rfl)) (Below.refl _ _) (fun _ => rfl)
    (fun pre W => (∃ v, Blk W (w.heap.size + 1) [v] 25 ∧ Row W w4.heap.size 30 3 encM v (runM (pgs l cs P) pre).1) ∧ Blk W (w.heap.size + 2) [.int .i64 (runM (pgs l cs P) pre).2] 3 ∧ Blk W w.heap.size [.slice a l.length cap] 22 ∧ Kp w W ∧ w4.heap.size ≤ W.heap.size)
    (fun _ _ _ => False)
    (fun s A B row hs hg hr => ?_)
    (fun _ _ _ _ _ hs _ _ => hs)
    ⟨⟨_, bO, Row.nil _ _ _ _ _⟩, bD, bL, k4, Nat.le_refl _⟩ ?frame ?done ?stop
  · obtain ⟨⟨v, hb, hrw⟩, hd, hL, hk, hz⟩ := hs
    exact ⟨⟨v, hb.grown hg (fun r e => (hr r e).2), hrw.grown hg (fun r e => (hr r e).2)⟩, hd.grown hg (fun r e => (hr r e).2), hL.grown hg (fun r e => (hr r e).2), hk.grown2 hg k4.size (fun r e => (hr r e).1), Nat.le_trans hz hg.size⟩
  case frame =>
    apply Exists.intro
    refine ⟨?_, ?_⟩
    · intro lp x W K hK
      gi_wp2
      exact hK
    · rintro lp pre x W ⟨⟨v, hb, hrw⟩, hd, hL, hk, hz⟩ hlt
      have HSN := Lib.hid (runM_snoc (pgs l cs P) pre x)
      have hsl := runM_length (pgs l cs P) pre
      have hsl2 : (runM (pgs l cs P) pre).1.length + 1 ≤ 5000 := by rw [hsl]; have := HN.out; omega
      obtain ⟨S, hS⟩ : ∃ S, (runM (pgs l cs P) pre).1 = S := ⟨_, rfl⟩
      obtain ⟨d, hD⟩ : ∃ d, (runM (pgs l cs P) pre).2 = d := ⟨_, rfl⟩
      rw [hS] at hrw hsl2
      rw [hD] at hd
      have hst : Hid ((runM (pgs l cs P) (pre ++ [x])) = (S ++ [⟨d, (pgs l cs P x.val).headD d, (pgs l cs P x.val).getLastD d⟩], (pgs l cs P x.val).getLastD d)) := Lib.hid (by rw [HSN.out]; unfold stM; rw [hS, hD])
      clear hS hD HSN hsl
      have hc2 := hd.cell 0 rfl
      have hcL := hL.cell 0 rfl
      have n0 := hL.lt
      have n1 := hb.lt
      have n2 := hd.lt
      gi_wp2_with fail
      refine ⟨trivial, CallsIn.inRound lp ((callsIn_wide.2 (CP.out x.val _ x.isLt (hk.alloc _))).mono ?_)⟩
      rintro e W2 ⟨v2, rfl, hv2, k2⟩
      obtain ⟨p, hp⟩ : ∃ p, pgs l cs P x.val = p := ⟨_, rfl⟩
      rw [hp] at hv2 hst
      have yX : Blk W2 W.heap.size [.int .i64 d, .int .i64 d, .int .i64 d] 30 := Blk.kp (Blk.new W _ _) k2
      have yO := (hb.alloc (.cells #[.int .i64 d, .int .i64 d, .int .i64 d] 30)).kp k2
      have yD := (hd.alloc (.cells #[.int .i64 d, .int .i64 d, .int .i64 d] 30)).kp k2
      have yL := (hL.alloc (.cells #[.int .i64 d, .int .i64 d, .int .i64 d] 30)).kp k2
      have yR := (hrw.alloc (.cells #[.int .i64 d, .int .i64 d, .int .i64 d] 30)).kp k2
      have kW : Kp W W2 := ((Kp.refl W).alloc _).trans k2
      have kO : KeepsOthers W W2 := kW.others
      have kC : CK (chK (w.heap.size + 3) (w.heap.size + 4)) W W2 := kW.ck
      have kK : Kp w W2 := hk.trans kW
      have nX := yX.lt
      have hvl := hv2.lt
      have HNR : Hid (∀ k, v.ownBlock = some k → k ≠ W.heap.size) := Lib.hid (fun k hk e => by have := (hrw.lt k hk).2; omega)
      obtain ⟨a2, c2, rfl, hs2⟩ := hv2.sl (fun _ => rfl)
      clear hv2 hb hd hL hrw hc2 hcL hk CP hp kW
      have HYR := Lib.hid yR
      have HKO := Lib.hid kO
      have HKC := Lib.hid kC
      clear yR kO kC k2
      rcases p with _ | ⟨p0, q⟩
      · clear hs2 hvl
        have c0 := yX.cell 0 rfl
        have c1 := yX.cell 1 rfl
        have c2' := yX.cell 2 rfl
        have cO := yO.cell 0 rfl
        have cD := yD.cell 0 rfl
        have fD := yD.free 0
        have q1 : W.heap.size ≠ w.heap.size + 1 + 1 := by omega
        have q2 : w.heap.size + 1 ≠ w.heap.size + 1 + 1 := by omega
        have q3 : w.heap.size + 1 < W2.heap.size := by omega
        gi_wp2_with (gi_at_builtin; go_loud (refine rowAppendIn ?gd (.tmp 41) (.tmp 43) 25 ?ho Try.underlying25 infoM rfl (by decide) ((HYR.out.store (B := w.heap.size + 1 + 1) (by omega) _).alloc _) ?hs (y := (⟨d, d, d⟩ : Mk)) rfl ?h1 (Blk.new _ _ 30) ?hx ?hl ?hb ?hz ?_; (case gd => rfl); (case ho => rfl); (case hs => rfl); (case h1 => simp [encM, Value.oneCell']); (case hx => (rw [World.size_setCell]; rfl)); (case hl => unfold maxLen; omega); (case hb => omega); (case hz => simp; omega); intro g' cap' w' hr' hlow hko hbe; have hb' := ((yO.other (a := ⟨w.heap.size + 1 + 1, 0, none⟩) q2 (.int .i64 d)).alloc (.cells #[.int .i64 d, .int .i64 d, .int .i64 d] 30)).heapEq (hlow _ (by omega)); have hc' := hb'.cell 0 rfl; have hf' := hb'.free 0))
        have hdd := ((yD.set 0 (.int .i64 d)).alloc (.cells #[.int .i64 d, .int .i64 d, .int .i64 d] 30)).heapEq (hlow _ (by omega))
        have hll := ((yL.other (a := ⟨w.heap.size + 1 + 1, 0, none⟩) (by simp; omega) (.int .i64 d)).alloc (.cells #[.int .i64 d, .int .i64 d, .int .i64 d] 30)).heapEq (hlow _ (by omega))
        refine ⟨HKO.out.trans ((KeepsOthers.setCell _ _ _).trans ((KeepsOthers.alloc _ _).trans (hko.trans (KeepsOthers.setCell _ _ _)))), HKC.out.trans ((CK.set _ (fun b h => (hbl b h).2.2) _).trans ((CK.alloc _ _).trans ((CK.below hbe (fun b h => (hbl b h).1)).trans (CK.set _ (fun b h => (hbl b h).2.1) _)))), ?_⟩
        dsimp only
        rw [hst.out]
        refine ⟨⟨_, hb'.set 0 _, hr'.store (by omega) _⟩, hdd.other (a := ⟨w.heap.size + 1, 0, none⟩) (by simp) _, hll.other (a := ⟨w.heap.size + 1, 0, none⟩) (by simp) _, ?_, ?_⟩
        · exact Kp.setCell (Below.trans ((kK.setCell (p := ⟨w.heap.size + 1 + 1, 0, none⟩) (by show w.heap.size ≤ w.heap.size + 1 + 1; omega) _).alloc _) (Below.mono hbe k4.size)) (by show w.heap.size ≤ w.heap.size + 1; omega) _
        · have h1 := hbe.size
          simp at h1 ⊢
          omega
      · rcases hs2.2.2.2 with e | ⟨g, o, rfl, hg, hrow⟩
        · cases e
        have hql : (p0 :: q)[q.length]? = some ((p0 :: q).getLastD d) := by
          rw [List.getLastD_eq_getLast?, List.getLast?_eq_getElem?]
          simp only [List.length_cons, Nat.add_sub_cancel]
          rw [List.getElem?_eq_getElem (by simp)]; rfl
        obtain ⟨pl, hpl⟩ : ∃ pl, (p0 :: q).getLastD d = pl := ⟨_, rfl⟩
        rw [hpl] at hql hst
        have hhd : (p0 :: q).headD d = p0 := rfl
        rw [hhd] at hst
        have e0 : W2.cell? ⟨g, o, none⟩ = some (.int .i64 p0) := by
          have h := hrow 0 p0 rfl 0 _ rfl
          rw [Nat.zero_mul] at h; exact h
        have e1 : W2.cell? ⟨g, o + q.length, none⟩ = some (.int .i64 pl) := by
          have h := hrow q.length pl hql 0 _ rfl
          rw [Nat.mul_one] at h; exact h
        have hgx := (hvl g rfl).1
        simp only [World.size_alloc] at hgx
        have hgx2 : g ≠ W.heap.size := by omega
        have hqm := hs2.2.1
        have hqm2 := hs2.2.2.1
        unfold maxLen at hqm2
        simp only [List.length_cons] at hqm
        obtain ⟨n, hn⟩ : ∃ n, q.length = n := ⟨_, rfl⟩
        have x1 := yX.cell 1 rfl
        have x2 := yX.cell 2 rfl
        have y1 := yX.free 1
        have y2 := yX.free 2
        clear hrow hvl hs2 hql hpl hhd
        simp only [List.length_cons, hn] at e1 hqm ⊢
        clear hn
        have ew : IntKind.i64.wrap (n : Int) = (n : Int) := by rw [IntKind.wrap_i64]; omega
        have en : (n : Int) < (n : Int) + 1 := by omega
        gi_wp2_with fail
        (refine wpIn_region_held_round (S := (fun w' => w'.cell? ⟨g, o, none⟩ = some (.int .i64 p0) ∧ w'.cell? ⟨g, o + n, none⟩ = some (.int .i64 pl))) (by kernel_rfl) (by kernel_rfl) (by first | exact not_letsOut | (rintro ⟨_, _, h⟩; exact h)) ?_ (fun hHd => ?_); (focus ((try dsimp only); exact ⟨e0, e1⟩)))
        (refine takeH (i := 0) (oi := ?o8) (v := ?v8) ?h8 (by kernel_rfl) ?q8 (Or.inl ⟨?w8, ?y8⟩) (by assumption) ?r8; (case h8 => ((simp only [g1, g3]); rfl)); (case q8 => exact fun _ _ _ h => h); (case w8 => rfl); (case y8 => (intro w' hSw; (try dsimp only at hSw); go_simp; (try with_reducible rfl))); (try simp only [Act.put, s1, s2, s3]))
        (refine takeH (i := 1) (oi := ?o9) (v := ?v9) ?h9 (by kernel_rfl) ?q9 (Or.inl ⟨?w9, ?y9⟩) (by assumption) ?r9; (case h9 => ((simp only [g1, g2, g3]); rfl)); (case q9 => exact fun _ _ _ h => h); (case w9 => rfl); (case y9 => (intro w' hSw; (try dsimp only at hSw); go_simp; (try with_reducible rfl))); (try simp only [Act.put, s1, s2, s3]))
        (refine takeH (i := 2) (oi := ?o10) (v := ?v10) ?h10 (by kernel_rfl) ?q10 (Or.inl ⟨?w10, ?y10⟩) (by assumption) ?r10; (case h10 => ((simp only [g1, g2, g3]); rfl)); (case q10 => exact fun _ _ _ h => h); (case w10 => rfl); (case y10 => (intro w' hSw; (try dsimp only at hSw); go_simp; (try with_reducible rfl))); (try simp only [Act.put, s1, s2, s3]))
        (refine takeH (i := 3) (oi := ?o11) (v := ?v11) ?h11 (by kernel_rfl) ?q11 (Or.inl ⟨?w11, ?y11⟩) (by assumption) ?r11; (case h11 => ((simp only [g1, g2, g3]); rfl)); (case q11 => exact fun _ _ _ h => h); (case w11 => rfl); (case y11 => (intro w' hSw; (try dsimp only at hSw); go_simp; (try with_reducible rfl))); (try simp only [Act.put, s1, s2, s3]))
        (refine takeH (i := 4) (oi := ?o12) (v := ?v12) ?h12 (by kernel_rfl) ?q12 (Or.inl ⟨?w12, ?y12⟩) (by assumption) ?r12; (case h12 => ((simp only [g1, g2, g3]); rfl)); (case q12 => exact fun _ _ _ h => h); (case w12 => rfl); (case y12 => (intro w' hSw; (try dsimp only at hSw); go_simp; (try with_reducible rfl))); (try simp only [Act.put, s1, s2, s3]))
        (refine takeH (i := 5) (oi := ?o13) (v := ?v13) ?h13 (by kernel_rfl) ?q13 (Or.inl ⟨?w13, ?y13⟩) (by assumption) ?r13; (case h13 => ((simp only [g1, g2, g3]); rfl)); (case q13 => exact fun _ _ _ h => h); (case w13 => rfl); (case y13 => (intro w' hSw; (try dsimp only at hSw); go_simp; (try with_reducible rfl))); (try simp only [Act.put, s1, s2, s3]))
        (refine takeH (i := 6) (oi := ?o14) (v := ?v14) ?h14 (by kernel_rfl) ?q14 (Or.inl ⟨?w14, ?y14⟩) (by assumption) ?r14; (case h14 => ((simp only [g1, g2, g3]); rfl)); (case q14 => exact fun _ _ _ h => h); (case w14 => rfl); (case y14 => (intro w' hSw; (try dsimp only at hSw); go_simp; (try with_reducible rfl))); (try simp only [Act.put, s1, s2, s3]))
        (refine takeH (i := 7) (oi := ?o15) (v := ?v15) ?h15 (by kernel_rfl) ?q15 (Or.inl ⟨?w15, ?y15⟩) (by assumption) ?r15; (case h15 => ((simp only [g1, g2, g3]); rfl)); (case q15 => exact fun _ _ _ h => h); (case w15 => rfl); (case y15 => (intro w' hSw; (try dsimp only at hSw); go_simp; (try with_reducible rfl))); (try simp only [Act.put, s1, s2, s3]))
        (refine takeH (i := 8) (oi := ?o16) (v := ?v16) ?h16 (by kernel_rfl) ?q16 (Or.inl ⟨?w16, ?y16⟩) (by assumption) ?r16; (case h16 => ((simp only [g1, g2, g3]); rfl)); (case q16 => exact fun _ _ _ h => h); (case w16 => rfl); (case y16 => (intro w' hSw; (try dsimp only at hSw); go_simp; (try with_reducible rfl))); (try simp only [Act.put, s1, s2, s3]))
        (refine takeH (i := 9) (oi := ?o17) (v := ?v17) ?h17 (by kernel_rfl) ?q17 (Or.inl ⟨?w17, ?y17⟩) (by assumption) ?r17; (case h17 => ((simp only [g1, g2, g3]); rfl)); (case q17 => exact fun _ _ _ h => h); (case w17 => rfl); (case y17 => (intro w' hSw; (try dsimp only at hSw); go_simp; (try with_reducible rfl))); (try simp only [Act.put, s1, s2, s3]))
        (refine wpAnyH_ready (rs := [10]) (by kernel_rfl) (by simp) ?_; refine AllReadyH.cons (o := ?o18) ?h18 (fun K hK => ?s18) AllReadyH.nil; (case h18 => (first | ((simp only [g1, g2, g3]); rfl) | rfl)); go_simp; (try dsimp only); refine hK.out _ _ ?_ (fun hHd => ?_); (focus ((try dsimp only); exact ⟨(cell_heap (Below.heap_setCell _ _ _ _ hgx2)).trans e0, (cell_heap (Below.heap_setCell _ _ _ _ hgx2)).trans e1⟩)); clear hK K; (try simp only [Act.put, s1, s2, s3]))
        (refine takeH (i := 11) (oi := ?o19) (v := ?v19) ?h19 (by kernel_rfl) ?q19 (Or.inl ⟨?w19, ?y19⟩) (by assumption) ?r19; (case h19 => ((simp only [g1, g2, g3]); rfl)); (case q19 => exact fun _ _ _ h => h); (case w19 => rfl); (case y19 => (intro w' hSw; (try dsimp only at hSw); go_simp; (try with_reducible rfl))); (try simp only [Act.put, s1, s2, s3]))
        (refine wpAnyH_ready (rs := [12]) (by kernel_rfl) (by simp) ?_; refine AllReadyH.cons (o := ?o20) ?h20 (fun K hK => ?s20) AllReadyH.nil; (case h20 => (first | ((simp only [g1, g2, g3]); rfl) | rfl)); go_simp; (try dsimp only); refine hK.out _ _ ?_ (fun hHd => ?_); (focus ((try dsimp only); exact ⟨(cell_heap (Below.heap_setCell _ _ _ _ hgx2)).trans ((cell_heap (Below.heap_setCell _ _ _ _ hgx2)).trans e0), (cell_heap (Below.heap_setCell _ _ _ _ hgx2)).trans ((cell_heap (Below.heap_setCell _ _ _ _ hgx2)).trans e1)⟩)); clear hK K; (try simp only [Act.put, s1, s2, s3]))
        refine wpAnyH_done (by kernel_rfl) ?_ _
        obtain ⟨W3, hW3⟩ : ∃ W3, ((W2.setCell ⟨W.heap.size, 1, none⟩ (.int .i64 p0)).setCell ⟨W.heap.size, 2, none⟩ (.int .i64 pl)).drew = W3 := ⟨_, rfl⟩
        have oth : ∀ {b' : Nat} {cs : List Value} {t : TypeId}, b' ≠ W.heap.size → Blk W2 b' cs t → Blk W3 b' cs t := fun hne h => hW3 ▸ ((h.other (a := ⟨W.heap.size, 1, none⟩) hne _).other (a := ⟨W.heap.size, 2, none⟩) hne _).drew
        replace yX : Blk W3 W.heap.size [.int .i64 d, .int .i64 p0, .int .i64 pl] 30 := hW3 ▸ ((yX.set 1 _).set 2 _).drew
        replace yO := oth (by omega) yO
        replace yD := oth (by omega) yD
        replace yL := oth (by omega) yL
        replace kK : Kp w W3 := hW3 ▸ ((kK.setCell (p := ⟨W.heap.size, 1, none⟩) (by show w.heap.size ≤ W.heap.size; omega) _).setCell (p := ⟨W.heap.size, 2, none⟩) (by show w.heap.size ≤ W.heap.size; omega) _).drew
        replace HKO : Hid (KeepsOthers W W3) := Lib.hid (hW3 ▸ HKO.out.trans ((KeepsOthers.setCell _ _ _).trans ((KeepsOthers.setCell _ _ _).trans (KeepsOthers.drew _))))
        replace HKC : Hid (CK (chK (w.heap.size + 3) (w.heap.size + 4)) W W3) := Lib.hid (hW3 ▸ (HKC.out.trans ((CK.setAt _ (p := ⟨W.heap.size, 1, none⟩) (fun b h e => by have := (hbl b h).1; simp only at e; omega) _).trans (CK.setAt _ (p := ⟨W.heap.size, 2, none⟩) (fun b h e => by have := (hbl b h).1; simp only at e; omega) _))).drew)
        replace HYR : Hid (Row W3 w4.heap.size 30 3 encM v S) := Lib.hid (hW3 ▸ (HYR.out.setFar (p := ⟨W.heap.size, 1, none⟩) HNR.out _ |>.setFar (p := ⟨W.heap.size, 2, none⟩) HNR.out _).drew)
        rw [hW3]
        have nX3 := yX.lt
        clear hW3 oth e0 e1 hHd x1 x2 y1 y2 hgx2 ew en
        have c0 := yX.cell 0 rfl
        have c1 := yX.cell 1 rfl
        have c2' := yX.cell 2 rfl
        have cO := yO.cell 0 rfl
        have cD := yD.cell 0 rfl
        have fD := yD.free 0
        have q1 : W.heap.size ≠ w.heap.size + 1 + 1 := by omega
        have q2 : w.heap.size + 1 ≠ w.heap.size + 1 + 1 := by omega
        have q3 : w.heap.size + 1 < W3.heap.size := by omega
        gi_wp2_with (gi_at_builtin; go_loud (refine rowAppendIn ?gd (.tmp 41) (.tmp 43) 25 ?ho Try.underlying25 infoM rfl (by decide) ((HYR.out.store (B := w.heap.size + 1 + 1) (by omega) _).alloc _) ?hs (y := (⟨d, p0, pl⟩ : Mk)) rfl ?h1 (Blk.new _ _ 30) ?hx ?hl ?hb ?hz ?_; (case gd => rfl); (case ho => rfl); (case hs => rfl); (case h1 => simp [encM, Value.oneCell']); (case hx => (rw [World.size_setCell]; rfl)); (case hl => unfold maxLen; omega); (case hb => omega); (case hz => simp; omega); intro g' cap' w' hr' hlow hko hbe; have hb' := ((yO.other (a := ⟨w.heap.size + 1 + 1, 0, none⟩) q2 (.int .i64 pl)).alloc (.cells #[.int .i64 d, .int .i64 p0, .int .i64 pl] 30)).heapEq (hlow _ (by omega)); have hc' := hb'.cell 0 rfl; have hf' := hb'.free 0))
        have hdd := ((yD.set 0 (.int .i64 pl)).alloc (.cells #[.int .i64 d, .int .i64 p0, .int .i64 pl] 30)).heapEq (hlow _ (by omega))
        have hll := ((yL.other (a := ⟨w.heap.size + 1 + 1, 0, none⟩) (by simp; omega) (.int .i64 pl)).alloc (.cells #[.int .i64 d, .int .i64 p0, .int .i64 pl] 30)).heapEq (hlow _ (by omega))
        refine ⟨HKO.out.trans ((KeepsOthers.setCell _ _ _).trans ((KeepsOthers.alloc _ _).trans (hko.trans (KeepsOthers.setCell _ _ _)))), HKC.out.trans ((CK.set _ (fun b h => (hbl b h).2.2) _).trans ((CK.alloc _ _).trans ((CK.below hbe (fun b h => (hbl b h).1)).trans (CK.set _ (fun b h => (hbl b h).2.1) _)))), ?_⟩
        dsimp only
        rw [hst.out]
        refine ⟨⟨_, hb'.set 0 _, hr'.store (by omega) _⟩, hdd.other (a := ⟨w.heap.size + 1, 0, none⟩) (by simp) _, hll.other (a := ⟨w.heap.size + 1, 0, none⟩) (by simp) _, ?_, ?_⟩
        · exact Kp.setCell (Below.trans ((kK.setCell (p := ⟨w.heap.size + 1 + 1, 0, none⟩) (by show w.heap.size ≤ w.heap.size + 1 + 1; omega) _).alloc _) (Below.mono hbe k4.size)) (by show w.heap.size ≤ w.heap.size + 1; omega) _
        · have h1 := hbe.size
          simp at h1 ⊢
          omega
  case done =>
    rintro D xs W hD rfl ⟨⟨v, hb, hrw⟩, hd, hL, hk, hz⟩ hK
    have hc := hb.cell 0 rfl
    rw [runM_firsts _ _ _ (Nat.le_refl _)] at hrw
    go_wp2
    refine ⟨by simp, .inl ⟨_, _, rfl, run_takeDeferred hK, ?_⟩⟩
    exact ⟨_, results_tmp rfl _ _ _, v, rfl, (hrw.base k4.size).grown (grownBy_putObj' W D (.deferred none)) (fun r e => by cases e; exact ⟨_, hK, rfl⟩), hk.mark _ (by have := k4.size; omega) hK⟩
  case stop =>
    rintro D c pre W _ _ h _
    exact h.elim
end Go.Proofs.Ytiimbkiiffimiaa
