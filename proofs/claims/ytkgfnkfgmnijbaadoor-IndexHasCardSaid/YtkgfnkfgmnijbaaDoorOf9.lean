/- The index: the program's Of. -/
import Derived.Test.YtkgfnkfgmnijbaaDoorRng9

import Derived.Maps.OwnIn

namespace Go.Proofs.YtkgfnkfgmnijbaaDoor

open Go.ChangeShapes Go.WideShapes Go.ChangeAt Go.RowKit Go.Shelf

attribute [local go_sem] Oper.semAt_some

/-- The marks, page by page. -/
def pagesL (l : List Item) (cs : List Col) (P : Nat) : List (List Int) := (List.range (nCh cs.length P)).map (pgs l cs P)
def preL (l : List Item) (cs : List Col) (P : Nat) {N : Nat} (pre : List (Fin N)) : List (List Int) := pre.map fun x => pgs l cs P x.val
theorem preL_firsts (l : List Item) (cs : List Col) (P k N : Nat) (hk : k ≤ N) : preL l cs P (firsts N k) = (List.range k).map (pgs l cs P) := by
  induction k with
  | zero => rw [firsts_zero]; rfl
  | succ k ih =>
    rw [firsts_succ (by omega), List.range_succ, List.map_append, ← ih (by omega)]
    simp [preL]
theorem heap_al {w : World} {o x : Obj} {i : Nat} (h : w.heap[i]? = some x) : (w.alloc o).heap[i]? = some x := (Below.heap_alloc w o i (Array.getElem?_eq_some_iff.1 h).1).trans h
theorem marks_in {l : List Item} {n : Int} (h : n ∈ marks l) : ∃ x, x ∈ l ∧ x.n = n := by
  unfold marks at h
  rw [List.mem_map] at h
  obtain ⟨x, hx, rfl⟩ := h
  exact ⟨x, (List.mem_filter.1 hx).1, rfl⟩
theorem page_in {l : List Item} {n : Int} : ∀ {cs : List Col}, n ∈ pageL l cs → ∃ x, x ∈ l ∧ x.n = n := by
  intro cs h
  unfold pageL at h
  rw [List.mem_flatMap] at h
  obtain ⟨c, _, hc⟩ := h
  split at hc
  · unfold inL at hc
    obtain ⟨x, hx, e⟩ := marks_in hc
    exact ⟨x, List.mem_of_mem_take (List.mem_of_mem_drop hx), e⟩
  · cases hc
theorem pgs_len {l : List Item} {cs : List Col} {P k : Nat} (h4 : l.length ≤ 100) (h6 : cs.length ≤ 60) : (pgs l cs P k).length ≤ 6000 := by
  unfold pgs
  have h := pageL_length l h4 (chunkL cs P k)
  have : (chunkL cs P k).length ≤ 60 := by
    unfold chunkL
    rw [List.length_drop, List.length_take]; omega
  omega
set_option maxRecDepth 100000 in
set_option maxHeartbeats 4000000 in
theorem indexOf_yes (a ca : Option Addr) (cap ccap : Nat) (l : List Item) (cs : List Col) (P : Nat) (w : World) (hl : SlOk w 7 Item.cells a l.length cap l) (hc : SlOk w 6 Col.cells ca cs.length ccap cs) (h4 : l.length ≤ 100) (h6 : cs.length ≤ 60) (hi : ∀ x, x ∈ l → I64 x.n) (hP : 1 ≤ P) (hP2 : P ≤ 9223372036854775807) :
    Calls Tryd.prog 13 #[.slice a l.length cap, .slice ca cs.length ccap, .int .i64 (P : Int)] w fun e w' => ∃ ra rc L, e = .returned (.slice ra L.length rc) ∧ SlOk w' 2 Ent.cells ra L.length rc L ∧ (∀ y, y ∈ L → y.good w') ∧ IsIndex (grpF (pagesL l cs P)) L ∧ Kp w w' := by
  obtain ⟨b, off, ha⟩ : ∃ b off, cs.length = 0 ∨ ca = some ⟨b, off, none⟩ := by
    rcases hc.2.2.2 with e | ⟨b, off, e, _⟩
    · exact ⟨0, 0, .inl (by rw [e]; rfl)⟩
    · exact ⟨b, off, .inr e⟩
  have hcl := hc.2.1
  have hcm := hc.2.2.1
  unfold maxLen at hcm
  have CP : Hid (∀ (k : Nat) (w' : World), k < nCh cs.length P → Kp w w' → Calls Tryd.prog 26 #[.slice a l.length cap, chV b off cs.length P k] w' fun e w'' => ∃ v, e = .returned v ∧ Row w'' w'.heap.size 3 1 enc1 v (pgs l cs P k) ∧ Kp w' w'') := Lib.hid (fun k w' hk kk => by
    have hlt := (lt_nCh hP).1 hk
    rcases ha with h0 | rfl
    · omega
    · exact pagePiece a cap ccap b off l cs P k w' (hl.kp kk) (hc.kp kk) h4 h6 hlt)
  have HN : Hid (nCh cs.length P ≤ 60) := Lib.hid (by
    unfold nCh
    rw [← Nat.lt_add_one_iff, Nat.div_lt_iff_lt_mul (by omega)]
    have : 61 * P = P + 60 * P := by omega
    have : 60 ≤ 60 * P := by omega
    omega)
  have HI : Hid (∀ k n, n ∈ pgs l cs P k → I64 n) := Lib.hid (fun k n hn => by
    obtain ⟨x, hx, rfl⟩ := page_in hn
    exact hi x hx)
  have HM : Hid (∀ k, (pgs l cs P k).length ≤ 6000) := Lib.hid (fun k => pgs_len h4 h6)
  have HA := Lib.hid ha
  have hP0 : ¬ P = 0 := by omega
  have j1 : decide ((P : Int) < 1) = false := decide_eq_false (by omega)
  have hmm := @run_makeMap Tryd.prog
  clear ha hl hc hi
  refine calls_marks Tryd.func13 rfl ?_
  simp only [Tryd.ntmps13, List.size_toArray, List.length_cons, List.length_nil, Nat.reduceAdd, Nat.reduceSub, Array.replicate_succ, Array.replicate_zero, List.push_toArray, List.append_toArray, List.nil_append, List.cons_append]
  go_wp2_with fail
  refine (chunk_any ca cs.length ccap (P : Int) _ (by omega)).mono ?_
  rintro e w3 ⟨rfl, hw3⟩
  go_wp2
  clear hw3
  refine named_world (F := fun W => W.heap[w.heap.size + 1]? = some (.map #[] 0) ∧ Blk W w.heap.size [.slice a l.length cap] 40 ∧ Blk W (w.heap.size + 2) [.map (some (w.heap.size + 1))] 69 ∧ Blk W (w.heap.size + 3) [.int .i64 0] 3 ∧ Blk W (w.heap.size + 4) [.slice ca cs.length ccap] 41 ∧ Blk W (w.heap.size + 5) [.int .i64 (P : Int)] 3 ∧ Kp w W ∧ w.heap.size + 6 = W.heap.size) ⟨heap_al (heap_al (heap_al (heap_al (by have := World.alloc_heap_new (w.alloc (.cells #[.slice a l.length cap] 40)) (.map #[] 0); rwa [World.size_alloc] at this)))), (by (repeat (first | with_reducible assumption | ((with_reducible refine Blk.newL ?_ ?_); (focus (first | (simp; done) | omega)); rfl) | with_reducible refine Blk.drew ?_ | with_reducible refine Blk.drewN ?_ _ | with_reducible refine Blk.alloc ?_ _ | ((with_reducible refine Blk.other ?_ ?_ _); rotate_left; (focus (first | with_reducible assumption | omega | (simp; done) | (simp; omega))))))), (by (repeat (first | with_reducible assumption | ((with_reducible refine Blk.newL ?_ ?_); (focus (first | (simp; done) | omega)); rfl) | with_reducible refine Blk.drew ?_ | with_reducible refine Blk.drewN ?_ _ | with_reducible refine Blk.alloc ?_ _ | ((with_reducible refine Blk.other ?_ ?_ _); rotate_left; (focus (first | with_reducible assumption | omega | (simp; done) | (simp; omega))))))), (by (repeat (first | with_reducible assumption | ((with_reducible refine Blk.newL ?_ ?_); (focus (first | (simp; done) | omega)); rfl) | with_reducible refine Blk.drew ?_ | with_reducible refine Blk.drewN ?_ _ | with_reducible refine Blk.alloc ?_ _ | ((with_reducible refine Blk.other ?_ ?_ _); rotate_left; (focus (first | with_reducible assumption | omega | (simp; done) | (simp; omega))))))), (by (repeat (first | with_reducible assumption | ((with_reducible refine Blk.newL ?_ ?_); (focus (first | (simp; done) | omega)); rfl) | with_reducible refine Blk.drew ?_ | with_reducible refine Blk.drewN ?_ _ | with_reducible refine Blk.alloc ?_ _ | ((with_reducible refine Blk.other ?_ ?_ _); rotate_left; (focus (first | with_reducible assumption | omega | (simp; done) | (simp; omega))))))), (by (repeat (first | with_reducible assumption | ((with_reducible refine Blk.newL ?_ ?_); (focus (first | (simp; done) | omega)); rfl) | with_reducible refine Blk.drew ?_ | with_reducible refine Blk.drewN ?_ _ | with_reducible refine Blk.alloc ?_ _ | ((with_reducible refine Blk.other ?_ ?_ _); rotate_left; (focus (first | with_reducible assumption | omega | (simp; done) | (simp; omega))))))), (by (repeat (first | with_reducible assumption | with_reducible exact Kp.refl _ | with_reducible refine Kp.drew ?_ | with_reducible refine Kp.drewN ?_ _ | with_reducible refine Kp.alloc ?_ _ | ((with_reducible refine Kp.setCell ?_ ?_ _); rotate_left; (focus (first | omega | (simp; done) | (simp; omega)))) | with_reducible refine Kp.trans ?_ (by assumption)))), by simp⟩ ?_
  rintro w4 ⟨bM, b0, b2, b3, bC, bP, k4, z4⟩
  obtain ⟨B, hB⟩ : ∃ B, w.heap.size = B := ⟨_, rfl⟩
  have hwB : w.heap.size ≤ B := by omega
  simp only [hB] at bM b0 b2 b3 bC bP z4 ⊢
  have hbl : ∀ b, chK (B + 4) (B + 5) b → b < B + 6 ∧ b ≠ B + 3 := by
    rintro b (rfl | rfl) <;> omega
  refine wp_rangeG (K := chK (B + 4) (B + 5)) (w0 := w4) rfl (enters_of Tryd.func37 (by kernel_rfl) rfl)
    (chunk_stops 99 (by decide) (B + 4) (B + 5) ca b off cs.length ccap P HA.out hP hP2 hcl hcm h6 w4 (bC.cell 0 rfl) (bP.cell 0 rfl)) (Below.refl _ _) (fun _ => rfl)
    (fun pre W => ∃ c, c ≤ pre.length * 6000 ∧ Grps W (B + 6) (B + 1) (fun _ => False) c (grpF (preL l cs P pre)) ∧ Blk W B [.slice a l.length cap] 40 ∧ Blk W (B + 2) [.map (some (B + 1))] 69 ∧ Blk W (B + 3) [.int .i64 (pre.length : Nat)] 3 ∧ Kp w W ∧ w4.heap.size ≤ W.heap.size)
    (fun _ _ _ => False)
    (fun s A B row hs hg hr => ?_)
    (fun _ _ _ _ _ hs _ _ => hs)
    ⟨0, by simp, Grps.made bM (by omega) _, b0, b2, b3, k4, Nat.le_refl _⟩ ?frame ?done ?stop
  · obtain ⟨c, hc, hG, y0, y2, y3, hk, hz⟩ := hs
    refine ⟨c, hc, hG.kept hg (fun e => ?_) (fun j e => .inr (.inr (hr j e).2)), y0.grown hg (fun r e => (hr r e).2), y2.grown hg (fun r e => (hr r e).2), y3.grown hg (fun r e => (hr r e).2), hk.grown2 hg k4.size (fun r e => (hr r e).1), Nat.le_trans hz hg.size⟩
    have := (hr _ e.symm).1
    omega
  case frame =>
    apply Exists.intro
    refine ⟨?_, ?_⟩
    · intro lp x W K hK
      gi_wp2
      exact hK
    · rintro lp pre x W ⟨c, hc, hG, y0, y2, y3, hk, hz⟩ hlt
      have hc0 := y0.cell 0 rfl
      have hN := HN.out
      have hm := HM.out x.val
      have hpl : pre.length < 60 := by omega
      gi_wp2_with fail
      refine ⟨trivial, CallsIn.inRound lp ((callsIn_wide.2 (CP.out x.val _ x.isLt hk)).mono ?_)⟩
      rintro e W2 ⟨v2, rfl, hv2, k2⟩
      have HSN : Hid (preL l cs P (pre ++ [x]) = preL l cs P pre ++ [pgs l cs P x.val]) := Lib.hid (by simp [preL])
      have HIX := Lib.hid (HI.out x.val)
      obtain ⟨m, hmm2⟩ : ∃ m, pgs l cs P x.val = m := ⟨_, rfl⟩
      rw [hmm2] at hv2 hm HSN HIX
      have hLs : (preL l cs P pre).length = pre.length := by simp [preL]
      obtain ⟨Ls, hLs2⟩ : ∃ Ls, preL l cs P pre = Ls := ⟨_, rfl⟩
      rw [hLs2] at hG HSN hLs
      obtain ⟨va, vc, hve, hs2⟩ := hv2.sl (fun _ => rfl)
      have hvl := hv2.lt
      rw [hve] at hvl
      subst hve
      have hNo : ∀ b off sp, va = some ⟨b, off, sp⟩ → (Value.slice va m.length vc).ownBlock = some b ∧ B + 6 ≤ b := fun b off sp e => by
        subst e
        exact ⟨rfl, by have := (hvl b rfl).1; omega⟩
      have hR0 : InR B (.slice a l.length cap) (pre.length : Nat) w W W2 (fun g => (Value.slice va m.length vc).ownBlock = some g) c (grpF Ls) va vc m :=
        ⟨(hG.reno (fun g hg => .inr (hvl g hg).1)).kp k2, y0.kp k2, y2.kp k2, y3.kp k2, hk.trans k2, hs2, k2.others.from _, k2.ck, k2.size⟩
      have hNoL : ∀ g, (Value.slice va m.length vc).ownBlock = some g → g < W2.heap.size := fun g hg => (hvl g hg).2
      have HNo := Lib.hid hNo
      have HNoL := Lib.hid hNoL
      have hW2 : W.heap.size ≤ W2.heap.size := k2.size
      have hvm := hs2.2.1
      have hvm2 := hs2.2.2.1
      unfold maxLen at hvm2
      clear hG y0 y2 y3 hk k2 hv2 hs2 hvl hc0 hmm2 hLs2 CP HI HM hNo hNoL
      gi_wp2_with fail
      gi_loopw [27] (fun v27 wr => ∃ j, j ≤ m.length ∧ v27 = .int .i64 (j : Nat) ∧ (∃ c', c' ≤ c + j ∧ InR B (.slice a l.length cap) (pre.length : Nat) w W wr (fun g => (Value.slice va m.length vc).ownBlock = some g) c' (grpJ Ls m j) va vc m) ∧ W2.heap.size ≤ wr.heap.size) (fun v27 _ => m.length - (intOf v27).toNat)
      case atStart => exact ⟨0, Nat.zero_le _, rfl, ⟨c, Nat.le_refl _, by rw [grpJ_zero]; exact hR0⟩, Nat.le_refl _⟩
      case round =>
        clear hR0
        obtain ⟨j, hj, rfl, ⟨c', hc', hR⟩, hsz⟩ := hrel
        by_cases hlt2 : j < m.length
        · obtain ⟨x', hx⟩ : ∃ x', m[j]? = some x' := ⟨m[j], List.getElem?_eq_getElem hlt2⟩
          have hxi := HIX.out x' (List.mem_of_getElem? hx)
          obtain ⟨ga, oa, rfl, hga, r1⟩ := entsOfSl hR.sl (by omega)
          have d0 := r1 j _ hx 0 _ rfl
          simp only [Nat.add_zero, Nat.mul_one] at d0
          have c2 := hR.z2.cell 0 rfl
          have c3 := hR.z3.cell 0 rfl
          have n3 := hR.z3.lt
          have jl : decide ((j : Int) < (m.length : Int)) = true := decide_eq_true (by omega)
          have HG := Lib.hid hR.g
          have HX := Lib.hid hx
          clear r1 hx
          gi_wp2_with (gi_at_lookup; refine wpListIn_plain rfl fun K' hK' => Oper.wp_round (fun _ h => by cases h) (lookW (.tmp 31) (.tmp 32) rfl HG.out (by omega) (fun g hg => Nat.lt_of_lt_of_le (HNoL.out g hg) hsz) hxi rfl rfl ?_); intro v hoi hsh hback; refine hK' _ _ ?_)
          have hx := HX.out
          have hpI : I64 ((pre.length : Nat) : Int) := ⟨by omega, by omega⟩
          have k0 : Kp wr wr.drew := (Kp.refl wr).drew
          have e2 : wr.drew.cell? ⟨B + 2, 0, none⟩ = some (.map (some (B + 1))) := c2
          have e3 : wr.drew.cell? ⟨B + 3, 0, none⟩ = some (.int .i64 (pre.length : Nat)) := c3
          have hzlen := grpJ_len Ls m j x'
          obtain ⟨zs, hz⟩ : ∃ zs, grpJ Ls m j x' = zs := ⟨_, rfl⟩
          rw [hz] at hoi hzlen
          obtain ⟨ua, uc, rfl, hus⟩ := (ownsInts_row hoi).sl (fun _ => rfl)
          have hzl := hus.2.1
          have hzm := hus.2.2.1
          unfold maxLen at hzm
          rcases List.eq_nil_or_concat zs with hz0 | ⟨q, l', hz0⟩
          · subst hz0
            have hnot : x' ∉ m.take j := fun h => by
              obtain ⟨q, e⟩ := grpJ_last_in (Ls := Ls) h
              rw [hz] at e; simp at e
            clear hus HX HG hga
            (refine wpIn_region_held_round (S := (fun w' => (∀ b o, b < wr.heap.size → w'.cell? ⟨b, o, none⟩ = wr.cell? ⟨b, o, none⟩) ∧ Kp wr w')) (by kernel_rfl) (by kernel_rfl) (by first | exact not_letsOut | (rintro ⟨_, _, h⟩; exact h)) ?_ (fun hHd => ?_); (focus ((try dsimp only); (first | with_reducible assumption | with_reducible exact held_start _ | with_reducible exact held_next (by assumption) (by assumption) | with_reducible exact held_alloc (by assumption) _ | with_reducible exact held_drew (by assumption) | ((with_reducible refine held_kp ?_); (repeat (first | with_reducible assumption | with_reducible exact Kp.refl _ | with_reducible refine Kp.drew ?_ | with_reducible refine Kp.drewN ?_ _ | with_reducible refine Kp.alloc ?_ _ | ((with_reducible refine Kp.setCell ?_ ?_ _); rotate_left; (focus (first | omega | (simp; done) | (simp; omega)))) | with_reducible refine Kp.trans ?_ (by assumption))))))))
            (refine takeH (i := 0) (oi := ?o17) (v := ?v17) ?h17 (by kernel_rfl) ?q17 (Or.inl ⟨?w17, ?y17⟩) (by assumption) ?r17; (case h17 => ((simp only [g1, g3]); rfl)); (case q17 => exact fun _ _ _ h => h); (case w17 => rfl); (case y17 => (intro w' hSw; (try dsimp only at hSw); go_simp; (try with_reducible rfl))); (try simp only [Act.put, s1, s2, s3]))
            (refine takeH (i := 1) (oi := ?o18) (v := ?v18) ?h18 (by kernel_rfl) ?q18 (Or.inl ⟨?w18, ?y18⟩) (by assumption) ?r18; (case h18 => ((simp only [g1, g2, g3]); rfl)); (case q18 => exact fun _ _ _ h => h); (case w18 => rfl); (case y18 => (intro w' hSw; (try dsimp only at hSw); go_simp; (try with_reducible rfl))); (try simp only [Act.put, s1, s2, s3]))
            (refine takeH (i := 2) (oi := ?o19) (v := ?v19) ?h19 (by kernel_rfl) ?q19 (Or.inl ⟨?w19, ?y19⟩) (by assumption) ?r19; (case h19 => ((simp only [g1, g2, g3]); rfl)); (case q19 => exact fun _ _ _ h => h); (case w19 => rfl); (case y19 => (intro w' hSw; (try dsimp only at hSw); go_simp; (try with_reducible rfl))); (try simp only [Act.put, s1, s2, s3]))
            (refine takeH (i := 3) (oi := ?o20) (v := ?v20) ?h20 (by kernel_rfl) ?q20 (Or.inl ⟨?w20, ?y20⟩) (by assumption) ?r20; (case h20 => ((simp only [g1, g2, g3]); rfl)); (case q20 => exact fun _ _ _ h => h); (case w20 => rfl); (case y20 => (intro w' hSw; (try dsimp only at hSw); go_simp; (try with_reducible rfl))); (try simp only [Act.put, s1, s2, s3]))
            (refine takeH (i := 4) (oi := ?o21) (v := undef) ?h21 (by kernel_rfl) ?q21 (Or.inr ⟨?w21, rfl⟩) (by assumption) ?r21; (case h21 => ((simp only [g1, g2, g3]); rfl)); (case q21 => exact fun _ _ _ h => h); (case w21 => rfl); (try simp only [Act.put, s1, s2, s3]))
            (refine takeH (i := 5) (oi := ?o22) (v := undef) ?h22 (by kernel_rfl) ?q22 (Or.inr ⟨?w22, rfl⟩) (by assumption) ?r22; (case h22 => ((simp only [g1, g2, g3]); rfl)); (case q22 => exact fun _ _ _ h => h); (case w22 => rfl); (try simp only [Act.put, s1, s2, s3]))
            (refine takeH (i := 6) (oi := ?o23) (v := undef) ?h23 (by kernel_rfl) ?q23 (Or.inr ⟨?w23, rfl⟩) (by assumption) ?r23; (case h23 => ((simp only [g1, g2, g3]); rfl)); (case q23 => exact fun _ _ _ h => h); (case w23 => rfl); (try simp only [Act.put, s1, s2, s3]))
            (refine takeH (i := 7) (oi := ?o24) (v := undef) ?h24 (by kernel_rfl) ?q24 (Or.inr ⟨?w24, rfl⟩) (by assumption) ?r24; (case h24 => ((simp only [g1, g2, g3]); rfl)); (case q24 => exact fun _ _ _ h => h); (case w24 => rfl); (try simp only [Act.put, s1, s2, s3]))
            (refine takeH (i := 8) (oi := ?o25) (v := undef) ?h25 (by kernel_rfl) ?q25 (Or.inr ⟨?w25, rfl⟩) (by assumption) ?r25; (case h25 => ((simp only [g1, g2, g3]); rfl)); (case q25 => exact fun _ _ _ h => h); (case w25 => rfl); (try simp only [Act.put, s1, s2, s3]))
            (refine takeH (i := 9) (oi := ?o26) (v := undef) ?h26 (by kernel_rfl) ?q26 (Or.inr ⟨?w26, rfl⟩) (by assumption) ?r26; (case h26 => ((simp only [g1, g2, g3]); rfl)); (case q26 => exact fun _ _ _ h => h); (case w26 => rfl); (try simp only [Act.put, s1, s2, s3]))
            (refine takeH (i := 10) (oi := ?o27) (v := undef) ?h27 (by kernel_rfl) ?q27 (Or.inr ⟨?w27, rfl⟩) (by assumption) ?r27; (case h27 => ((simp only [g1, g2, g3]); rfl)); (case q27 => exact fun _ _ _ h => h); (case w27 => rfl); (try simp only [Act.put, s1, s2, s3]))
            (refine takeH (i := 11) (oi := ?o28) (v := undef) ?h28 (by kernel_rfl) ?q28 (Or.inr ⟨?w28, rfl⟩) (by assumption) ?r28; (case h28 => ((simp only [g1, g2, g3]); rfl)); (case q28 => exact fun _ _ _ h => h); (case w28 => rfl); (try simp only [Act.put, s1, s2, s3]))
            (refine takeH (i := 12) (oi := ?o29) (v := ?v29) ?h29 (by kernel_rfl) ?q29 (Or.inl ⟨?w29, ?y29⟩) (by assumption) ?r29; (case h29 => ((simp only [g1, g2, g3]); rfl)); (case q29 => exact fun _ _ _ h => h); (case w29 => rfl); (case y29 => (intro w' hSw; (try dsimp only at hSw); go_simp; (try with_reducible rfl))); (try simp only [Act.put, s1, s2, s3]))
            refine wpAnyH_done (by kernel_rfl) ?_ _
            clear hHd
            generalize wr.drew = wd at k0 e2 e3 ⊢
            have HRd := Lib.hid (hR.kp0 k0)
            have HOI := Lib.hid (ownsInts_kp hoi k0)
            have HB := Lib.hid hback
            have HKO := Lib.hid hsh
            have HR := Lib.hid hR
            have HO0 := Lib.hid hoi
            have hsw := k0.size
            clear hback hoi hR hsh c2 c3 d0 hzl hzm
            gi_wp2_with fail
            (refine wpIn_region_held_round (S := (fun w' => w'.cell? ⟨B + 2, 0, none⟩ = some (.map (some (B + 1))) ∧ w'.cell? ⟨B + 3, 0, none⟩ = some (.int .i64 (pre.length : Nat)))) (by kernel_rfl) (by kernel_rfl) (by first | exact not_letsOut | (rintro ⟨_, _, h⟩; exact h)) ?_ (fun hHd => ?_); (focus ((try dsimp only); exact ⟨e2, e3⟩)))
            (refine takeH (i := 0) (oi := ?o30) (v := ?v30) ?h30 (by kernel_rfl) ?q30 (Or.inl ⟨?w30, ?y30⟩) (by assumption) ?r30; (case h30 => ((simp only [g1, g3]); rfl)); (case q30 => exact fun _ _ _ h => h); (case w30 => rfl); (case y30 => (intro w' hSw; (try dsimp only at hSw); go_simp; (try with_reducible rfl))); (try simp only [Act.put, s1, s2, s3]))
            (refine takeH (i := 1) (oi := ?o31) (v := ?v31) ?h31 (by kernel_rfl) ?q31 (Or.inl ⟨?w31, ?y31⟩) (by assumption) ?r31; (case h31 => ((simp only [g1, g2, g3]); rfl)); (case q31 => exact fun _ _ _ h => h); (case w31 => rfl); (case y31 => (intro w' hSw; (try dsimp only at hSw); go_simp; (try with_reducible rfl))); (try simp only [Act.put, s1, s2, s3]))
            (refine takeH (i := 2) (oi := ?o32) (v := ?v32) ?h32 (by kernel_rfl) ?q32 (Or.inl ⟨?w32, ?y32⟩) (by assumption) ?r32; (case h32 => ((simp only [g1, g2, g3]); rfl)); (case q32 => exact fun _ _ _ h => h); (case w32 => rfl); (case y32 => (intro w' hSw; (try dsimp only at hSw); go_simp; (try with_reducible rfl))); (try simp only [Act.put, s1, s2, s3]))
            (refine takeH (i := 3) (oi := ?o33) (v := ?v33) ?h33 (by kernel_rfl) ?q33 (Or.inl ⟨?w33, ?y33⟩) (by assumption) ?r33; (case h33 => ((simp only [g1, g2, g3]); rfl)); (case q33 => exact fun _ _ _ h => h); (case w33 => rfl); (case y33 => (intro w' hSw; (try dsimp only at hSw); go_simp; (try with_reducible rfl))); (try simp only [Act.put, s1, s2, s3]))
            (refine wpAnyH_ready (rs := [4]) (by kernel_rfl) (by simp) ?_; refine AllReadyH.cons (o := ?o34) ?h34 (fun K hK => ?s34) AllReadyH.nil; (case h34 => (first | ((simp only [g1, g2, g3]); rfl) | rfl)); go_simp; (try dsimp only); refine hK.out _ _ ?_ (fun hHd => ?_); (focus ((try dsimp only); exact ⟨(Blk.kp HRd.out.z2 (show Kp wd _ from (by (repeat (first | with_reducible assumption | with_reducible exact Kp.refl _ | with_reducible refine Kp.drew ?_ | with_reducible refine Kp.drewN ?_ _ | with_reducible refine Kp.alloc ?_ _ | ((with_reducible refine Kp.setCell ?_ ?_ _); rotate_left; (focus (first | omega | (simp; done) | (simp; omega)))) | with_reducible refine Kp.trans ?_ (by assumption)))))).cell 0 rfl, (Blk.kp HRd.out.z3 (show Kp wd _ from (by (repeat (first | with_reducible assumption | with_reducible exact Kp.refl _ | with_reducible refine Kp.drew ?_ | with_reducible refine Kp.drewN ?_ _ | with_reducible refine Kp.alloc ?_ _ | ((with_reducible refine Kp.setCell ?_ ?_ _); rotate_left; (focus (first | omega | (simp; done) | (simp; omega)))) | with_reducible refine Kp.trans ?_ (by assumption)))))).cell 0 rfl⟩)); clear hK K; (try simp only [Act.put, s1, s2, s3]))
            (refine wpAnyH_ready (rs := [5]) (by kernel_rfl) (by simp) ?_; refine AllReadyH.cons (o := ?o35) ?h35 (fun K hK => ?s35) AllReadyH.nil; (case h35 => (first | ((simp only [g1, g2, g3]); rfl) | rfl)); (refine appendAtW (.tmp 49) (.tmp 51) ?ho36 (ownsInts_kp HOI.out (show Kp wd _ from (by (repeat (first | with_reducible assumption | with_reducible exact Kp.refl _ | with_reducible refine Kp.drew ?_ | with_reducible refine Kp.drewN ?_ _ | with_reducible refine Kp.alloc ?_ _ | ((with_reducible refine Kp.setCell ?_ ?_ _); rotate_left; (focus (first | omega | (simp; done) | (simp; omega)))) | with_reducible refine Kp.trans ?_ (by assumption)))))) ?hs36 (p := (pre.length : Nat)) hpI (show Blk _ wd.heap.size [.int .i64 (pre.length : Nat)] 3 from (by (repeat (first | with_reducible assumption | ((with_reducible refine Blk.newL ?_ ?_); (focus (first | (simp; done) | omega)); rfl) | with_reducible refine Blk.drew ?_ | with_reducible refine Blk.drewN ?_ _ | with_reducible refine Blk.alloc ?_ _ | ((with_reducible refine Blk.other ?_ ?_ _); rotate_left; (focus (first | with_reducible assumption | omega | (simp; done) | (simp; omega)))))))) ?hx36 ?hl36 ?hz36 ?_; (case ho36 => rfl); (case hs36 => rfl); (case hx36 => rfl); (case hl36 => first | omega | (simp; done)); (case hz36 => simp; omega); intro v' w1 hown' hgrow hloc; have hlo := HRd.out.low HOI.out (show Kp wd _ from (by (repeat (first | with_reducible assumption | with_reducible exact Kp.refl _ | with_reducible refine Kp.drew ?_ | with_reducible refine Kp.drewN ?_ _ | with_reducible refine Kp.alloc ?_ _ | ((with_reducible refine Kp.setCell ?_ ?_ _); rotate_left; (focus (first | omega | (simp; done) | (simp; omega)))) | with_reducible refine Kp.trans ?_ (by assumption))))) hgrow; have hg1 := grown_trans (Kp.grownBy (Kp.trans k0 (show Kp wd _ from (by (repeat (first | with_reducible assumption | with_reducible exact Kp.refl _ | with_reducible refine Kp.drew ?_ | with_reducible refine Kp.drewN ?_ _ | with_reducible refine Kp.alloc ?_ _ | ((with_reducible refine Kp.setCell ?_ ?_ _); rotate_left; (focus (first | omega | (simp; done) | (simp; omega)))) | with_reducible refine Kp.trans ?_ (by assumption))))))) hgrow); refine hK.out _ _ ?_ (fun hHd => ?_); (focus ((try dsimp only); exact hlo)); clear hK K; (try simp only [Act.put]))
            (refine wpAnyH_ready (rs := [6]) (by kernel_rfl) (by simp) ?_; refine AllReadyH.cons (o := ?o37) ?h37 (fun K hK => ?s37) AllReadyH.nil; (case h37 => (first | ((simp only [g1, g2, g3]); rfl) | rfl)); (refine mapBackW (p := (pre.length : Nat)) (.tmp 47) (.tmp 48) (.tmp 52) ?ho38 HB.out ?hm38 ?hx38 ?hv38 hg1 (by rw [hz]; exact hown') (hloc.imp id (fun h => ⟨_, h, by simp; omega⟩)) ?_; (case ho38 => rfl); (case hm38 => rfl); (case hx38 => rfl); (case hv38 => rfl); intro w2 hG2 hgrow2); refine hK.out _ _ ?_ (fun hHd => ?_); (focus ((try dsimp only); exact low2 hlo hgrow2)); clear hK K; (try simp only [Act.put]))
            refine wpAnyH_done (by kernel_rfl) ?_ _
            gi_wp2_with fail
            go_roundw
            case rel => exact ⟨j + 1, by omega, by go_num, ⟨c' + 1, by omega, InR.step HR.out hwB HNo.out HO0.out HKO.out hg1 hgrow2 (by rw [grpJ_out hx hnot, hLs]; exact hG2)⟩, by have := hg1.size; have := hgrow2.size; omega⟩
            case measure => simp [intOf]; omega
          · rw [List.concat_eq_append] at hz0
            subst hz0
            obtain ⟨gu, ou, rfl, hgu, ru⟩ := entsOfSl hus (by simp)
            have f0 := ru q.length l' (by simp) 0 _ rfl
            simp only [Nat.add_zero, Nat.mul_one] at f0
            obtain ⟨qn, hqn⟩ : ∃ n, q.length = n := ⟨_, rfl⟩
            have hq1 : (q ++ [l']).length = qn + 1 := by simp [hqn]
            rw [hqn] at f0
            have e10 : (qn : Int) < (qn : Int) + 1 := by omega
            have e9 : IntKind.i64.wrap (qn : Int) = (qn : Int) := by rw [IntKind.wrap_i64]; omega
            by_cases hp : l' = (pre.length : Nat)
            · have hin : x' ∈ m.take j := Classical.byContradiction fun h => grpJ_last_out h hz (by rw [hp, hLs])
              have p1 : (l' == ((pre.length : Nat) : Int)) = true := by simp [hp]
              have p2 : (l' != ((pre.length : Nat) : Int)) = false := by simp [hp]
              have HP9 := Lib.hid hp
              have HR := Lib.hid (hR.kp0 k0)
              have HIN := Lib.hid hin
              clear hus HX HG hga ru hp hR hback hoi hin hsh
              gi_wp2_with fail
              (refine wpIn_region_held_round (S := (fun w' => (∀ b o, b < wr.heap.size → w'.cell? ⟨b, o, none⟩ = wr.cell? ⟨b, o, none⟩) ∧ Kp wr w')) (by kernel_rfl) (by kernel_rfl) (by first | exact not_letsOut | (rintro ⟨_, _, h⟩; exact h)) ?_ (fun hHd => ?_); (focus ((try dsimp only); (first | with_reducible assumption | with_reducible exact held_start _ | with_reducible exact held_next (by assumption) (by assumption) | with_reducible exact held_alloc (by assumption) _ | with_reducible exact held_drew (by assumption) | ((with_reducible refine held_kp ?_); (repeat (first | with_reducible assumption | with_reducible exact Kp.refl _ | with_reducible refine Kp.drew ?_ | with_reducible refine Kp.drewN ?_ _ | with_reducible refine Kp.alloc ?_ _ | ((with_reducible refine Kp.setCell ?_ ?_ _); rotate_left; (focus (first | omega | (simp; done) | (simp; omega)))) | with_reducible refine Kp.trans ?_ (by assumption))))))))
              (refine takeH (i := 0) (oi := ?o39) (v := ?v39) ?h39 (by kernel_rfl) ?q39 (Or.inl ⟨?w39, ?y39⟩) (by assumption) ?r39; (case h39 => ((simp only [g1, g3]); rfl)); (case q39 => exact fun _ _ _ h => h); (case w39 => rfl); (case y39 => (intro w' hSw; (try dsimp only at hSw); go_simp; (try with_reducible rfl))); (try simp only [Act.put, s1, s2, s3]))
              (refine takeH (i := 1) (oi := ?o40) (v := ?v40) ?h40 (by kernel_rfl) ?q40 (Or.inl ⟨?w40, ?y40⟩) (by assumption) ?r40; (case h40 => ((simp only [g1, g2, g3]); rfl)); (case q40 => exact fun _ _ _ h => h); (case w40 => rfl); (case y40 => (intro w' hSw; (try dsimp only at hSw); go_simp; (try with_reducible rfl))); (try simp only [Act.put, s1, s2, s3]))
              (refine takeH (i := 2) (oi := ?o41) (v := ?v41) ?h41 (by kernel_rfl) ?q41 (Or.inl ⟨?w41, ?y41⟩) (by assumption) ?r41; (case h41 => ((simp only [g1, g2, g3]); rfl)); (case q41 => exact fun _ _ _ h => h); (case w41 => rfl); (case y41 => (intro w' hSw; (try dsimp only at hSw); go_simp; (try with_reducible rfl))); (try simp only [Act.put, s1, s2, s3]))
              (refine takeH (i := 3) (oi := ?o42) (v := ?v42) ?h42 (by kernel_rfl) ?q42 (Or.inl ⟨?w42, ?y42⟩) (by assumption) ?r42; (case h42 => ((simp only [g1, g2, g3]); rfl)); (case q42 => exact fun _ _ _ h => h); (case w42 => rfl); (case y42 => (intro w' hSw; (try dsimp only at hSw); go_simp; (try with_reducible rfl))); (try simp only [Act.put, s1, s2, s3]))
              (refine takeH (i := 4) (oi := ?o43) (v := ?v43) ?h43 (by kernel_rfl) ?q43 (Or.inl ⟨?w43, ?y43⟩) (by assumption) ?r43; (case h43 => ((simp only [g1, g2, g3]); rfl)); (case q43 => exact fun _ _ _ h => h); (case w43 => rfl); (case y43 => (intro w' hSw; (try dsimp only at hSw); go_simp; (try with_reducible rfl))); (try simp only [Act.put, s1, s2, s3]))
              (refine takeH (i := 5) (oi := ?o44) (v := ?v44) ?h44 (by kernel_rfl) ?q44 (Or.inl ⟨?w44, ?y44⟩) (by assumption) ?r44; (case h44 => ((simp only [g1, g2, g3]); rfl)); (case q44 => exact fun _ _ _ h => h); (case w44 => rfl); (case y44 => (intro w' hSw; (try dsimp only at hSw); go_simp; (try with_reducible rfl))); (try simp only [Act.put, s1, s2, s3]))
              (refine takeH (i := 6) (oi := ?o45) (v := ?v45) ?h45 (by kernel_rfl) ?q45 (Or.inl ⟨?w45, ?y45⟩) (by assumption) ?r45; (case h45 => ((simp only [g1, g2, g3]); rfl)); (case q45 => exact fun _ _ _ h => h); (case w45 => rfl); (case y45 => (intro w' hSw; (try dsimp only at hSw); go_simp; (try with_reducible rfl))); (try simp only [Act.put, s1, s2, s3]))
              (refine takeH (i := 7) (oi := ?o46) (v := ?v46) ?h46 (by kernel_rfl) ?q46 (Or.inl ⟨?w46, ?y46⟩) (by assumption) ?r46; (case h46 => ((simp only [g1, g2, g3]); rfl)); (case q46 => exact fun _ _ _ h => h); (case w46 => rfl); (case y46 => (intro w' hSw; (try dsimp only at hSw); go_simp; (try with_reducible rfl))); (try simp only [Act.put, s1, s2, s3]))
              (refine takeH (i := 8) (oi := ?o47) (v := ?v47) ?h47 (by kernel_rfl) ?q47 (Or.inl ⟨?w47, ?y47⟩) (by assumption) ?r47; (case h47 => ((simp only [g1, g2, g3]); rfl)); (case q47 => exact fun _ _ _ h => h); (case w47 => rfl); (case y47 => (intro w' hSw; (try dsimp only at hSw); go_simp; (try with_reducible rfl))); (try simp only [Act.put, s1, s2, s3]))
              (refine takeH (i := 9) (oi := ?o48) (v := ?v48) ?h48 (by kernel_rfl) ?q48 (Or.inl ⟨?w48, ?y48⟩) (by assumption) ?r48; (case h48 => ((simp only [g1, g2, g3]); rfl)); (case q48 => exact fun _ _ _ h => h); (case w48 => rfl); (case y48 => (intro w' hSw; (try dsimp only at hSw); go_simp; (try with_reducible rfl))); (try simp only [Act.put, s1, s2, s3]))
              (refine takeH (i := 10) (oi := ?o49) (v := ?v49) ?h49 (by kernel_rfl) ?q49 (Or.inl ⟨?w49, ?y49⟩) (by assumption) ?r49; (case h49 => ((simp only [g1, g2, g3]); rfl)); (case q49 => exact fun _ _ _ h => h); (case w49 => rfl); (case y49 => (intro w' hSw; (try dsimp only at hSw); go_simp; (try with_reducible rfl))); (try simp only [Act.put, s1, s2, s3]))
              (refine takeH (i := 11) (oi := ?o50) (v := ?v50) ?h50 (by kernel_rfl) ?q50 (Or.inl ⟨?w50, ?y50⟩) (by assumption) ?r50; (case h50 => ((simp only [g1, g2, g3]); rfl)); (case q50 => exact fun _ _ _ h => h); (case w50 => rfl); (case y50 => (intro w' hSw; (try dsimp only at hSw); go_simp; (try with_reducible rfl))); (try simp only [Act.put, s1, s2, s3]))
              (refine takeH (i := 12) (oi := ?o51) (v := ?v51) ?h51 (by kernel_rfl) ?q51 (Or.inl ⟨?w51, ?y51⟩) (by assumption) ?r51; (case h51 => ((simp only [g1, g2, g3]); rfl)); (case q51 => exact fun _ _ _ h => h); (case w51 => rfl); (case y51 => (intro w' hSw; (try dsimp only at hSw); go_simp; (try with_reducible rfl))); (try simp only [Act.put, s1, s2, s3]))
              refine wpAnyH_done (by kernel_rfl) ?_ _
              gi_wp2_with fail
              go_roundw
              case rel => exact ⟨j + 1, by omega, by go_num, ⟨c', by omega, by rw [grpJ_in hx HIN.out]; exact HR.out⟩, hsz⟩
              case measure => simp [intOf]; omega
            · have hnot : x' ∉ m.take j := fun h => by
                obtain ⟨q', e⟩ := grpJ_last_in (Ls := Ls) h
                rw [hz] at e
                have := (List.append_inj' e rfl).2
                simp at this
                exact hp (by rw [this, hLs])
              have p1 : (l' == ((pre.length : Nat) : Int)) = false := by simpa using hp
              have p2 : (l' != ((pre.length : Nat) : Int)) = true := by simp [bne, p1]
              rw [hq1] at hoi hback hsh
              clear hus HX HG hga ru hp
              gi_wp2_with fail
              (refine wpIn_region_held_round (S := (fun w' => (∀ b o, b < wr.heap.size → w'.cell? ⟨b, o, none⟩ = wr.cell? ⟨b, o, none⟩) ∧ Kp wr w')) (by kernel_rfl) (by kernel_rfl) (by first | exact not_letsOut | (rintro ⟨_, _, h⟩; exact h)) ?_ (fun hHd => ?_); (focus ((try dsimp only); (first | with_reducible assumption | with_reducible exact held_start _ | with_reducible exact held_next (by assumption) (by assumption) | with_reducible exact held_alloc (by assumption) _ | with_reducible exact held_drew (by assumption) | ((with_reducible refine held_kp ?_); (repeat (first | with_reducible assumption | with_reducible exact Kp.refl _ | with_reducible refine Kp.drew ?_ | with_reducible refine Kp.drewN ?_ _ | with_reducible refine Kp.alloc ?_ _ | ((with_reducible refine Kp.setCell ?_ ?_ _); rotate_left; (focus (first | omega | (simp; done) | (simp; omega)))) | with_reducible refine Kp.trans ?_ (by assumption))))))))
              (refine takeH (i := 0) (oi := ?o52) (v := ?v52) ?h52 (by kernel_rfl) ?q52 (Or.inl ⟨?w52, ?y52⟩) (by assumption) ?r52; (case h52 => ((simp only [g1, g3]); rfl)); (case q52 => exact fun _ _ _ h => h); (case w52 => rfl); (case y52 => (intro w' hSw; (try dsimp only at hSw); go_simp; (try with_reducible rfl))); (try simp only [Act.put, s1, s2, s3]))
              (refine takeH (i := 1) (oi := ?o53) (v := ?v53) ?h53 (by kernel_rfl) ?q53 (Or.inl ⟨?w53, ?y53⟩) (by assumption) ?r53; (case h53 => ((simp only [g1, g2, g3]); rfl)); (case q53 => exact fun _ _ _ h => h); (case w53 => rfl); (case y53 => (intro w' hSw; (try dsimp only at hSw); go_simp; (try with_reducible rfl))); (try simp only [Act.put, s1, s2, s3]))
              (refine takeH (i := 2) (oi := ?o54) (v := ?v54) ?h54 (by kernel_rfl) ?q54 (Or.inl ⟨?w54, ?y54⟩) (by assumption) ?r54; (case h54 => ((simp only [g1, g2, g3]); rfl)); (case q54 => exact fun _ _ _ h => h); (case w54 => rfl); (case y54 => (intro w' hSw; (try dsimp only at hSw); go_simp; (try with_reducible rfl))); (try simp only [Act.put, s1, s2, s3]))
              (refine takeH (i := 3) (oi := ?o55) (v := ?v55) ?h55 (by kernel_rfl) ?q55 (Or.inl ⟨?w55, ?y55⟩) (by assumption) ?r55; (case h55 => ((simp only [g1, g2, g3]); rfl)); (case q55 => exact fun _ _ _ h => h); (case w55 => rfl); (case y55 => (intro w' hSw; (try dsimp only at hSw); go_simp; (try with_reducible rfl))); (try simp only [Act.put, s1, s2, s3]))
              (refine takeH (i := 4) (oi := ?o56) (v := ?v56) ?h56 (by kernel_rfl) ?q56 (Or.inl ⟨?w56, ?y56⟩) (by assumption) ?r56; (case h56 => ((simp only [g1, g2, g3]); rfl)); (case q56 => exact fun _ _ _ h => h); (case w56 => rfl); (case y56 => (intro w' hSw; (try dsimp only at hSw); go_simp; (try with_reducible rfl))); (try simp only [Act.put, s1, s2, s3]))
              (refine takeH (i := 5) (oi := ?o57) (v := ?v57) ?h57 (by kernel_rfl) ?q57 (Or.inl ⟨?w57, ?y57⟩) (by assumption) ?r57; (case h57 => ((simp only [g1, g2, g3]); rfl)); (case q57 => exact fun _ _ _ h => h); (case w57 => rfl); (case y57 => (intro w' hSw; (try dsimp only at hSw); go_simp; (try with_reducible rfl))); (try simp only [Act.put, s1, s2, s3]))
              (refine takeH (i := 6) (oi := ?o58) (v := ?v58) ?h58 (by kernel_rfl) ?q58 (Or.inl ⟨?w58, ?y58⟩) (by assumption) ?r58; (case h58 => ((simp only [g1, g2, g3]); rfl)); (case q58 => exact fun _ _ _ h => h); (case w58 => rfl); (case y58 => (intro w' hSw; (try dsimp only at hSw); go_simp; (try with_reducible rfl))); (try simp only [Act.put, s1, s2, s3]))
              (refine takeH (i := 7) (oi := ?o59) (v := ?v59) ?h59 (by kernel_rfl) ?q59 (Or.inl ⟨?w59, ?y59⟩) (by assumption) ?r59; (case h59 => ((simp only [g1, g2, g3]); rfl)); (case q59 => exact fun _ _ _ h => h); (case w59 => rfl); (case y59 => (intro w' hSw; (try dsimp only at hSw); go_simp; (try with_reducible rfl))); (try simp only [Act.put, s1, s2, s3]))
              (refine takeH (i := 8) (oi := ?o60) (v := ?v60) ?h60 (by kernel_rfl) ?q60 (Or.inl ⟨?w60, ?y60⟩) (by assumption) ?r60; (case h60 => ((simp only [g1, g2, g3]); rfl)); (case q60 => exact fun _ _ _ h => h); (case w60 => rfl); (case y60 => (intro w' hSw; (try dsimp only at hSw); go_simp; (try with_reducible rfl))); (try simp only [Act.put, s1, s2, s3]))
              (refine takeH (i := 9) (oi := ?o61) (v := ?v61) ?h61 (by kernel_rfl) ?q61 (Or.inl ⟨?w61, ?y61⟩) (by assumption) ?r61; (case h61 => ((simp only [g1, g2, g3]); rfl)); (case q61 => exact fun _ _ _ h => h); (case w61 => rfl); (case y61 => (intro w' hSw; (try dsimp only at hSw); go_simp; (try with_reducible rfl))); (try simp only [Act.put, s1, s2, s3]))
              (refine takeH (i := 10) (oi := ?o62) (v := ?v62) ?h62 (by kernel_rfl) ?q62 (Or.inl ⟨?w62, ?y62⟩) (by assumption) ?r62; (case h62 => ((simp only [g1, g2, g3]); rfl)); (case q62 => exact fun _ _ _ h => h); (case w62 => rfl); (case y62 => (intro w' hSw; (try dsimp only at hSw); go_simp; (try with_reducible rfl))); (try simp only [Act.put, s1, s2, s3]))
              (refine takeH (i := 11) (oi := ?o63) (v := ?v63) ?h63 (by kernel_rfl) ?q63 (Or.inl ⟨?w63, ?y63⟩) (by assumption) ?r63; (case h63 => ((simp only [g1, g2, g3]); rfl)); (case q63 => exact fun _ _ _ h => h); (case w63 => rfl); (case y63 => (intro w' hSw; (try dsimp only at hSw); go_simp; (try with_reducible rfl))); (try simp only [Act.put, s1, s2, s3]))
              (refine takeH (i := 12) (oi := ?o64) (v := ?v64) ?h64 (by kernel_rfl) ?q64 (Or.inl ⟨?w64, ?y64⟩) (by assumption) ?r64; (case h64 => ((simp only [g1, g2, g3]); rfl)); (case q64 => exact fun _ _ _ h => h); (case w64 => rfl); (case y64 => (intro w' hSw; (try dsimp only at hSw); go_simp; (try with_reducible rfl))); (try simp only [Act.put, s1, s2, s3]))
              refine wpAnyH_done (by kernel_rfl) ?_ _
              clear hHd
              generalize wr.drew = wd at k0 e2 e3 ⊢
              have HRd := Lib.hid (hR.kp0 k0)
              have HOI := Lib.hid (ownsInts_kp hoi k0)
              have HB := Lib.hid hback
              have HKO := Lib.hid hsh
              have HR := Lib.hid hR
              have HO0 := Lib.hid hoi
              have hsw := k0.size
              clear hback hoi hR hsh c2 c3 d0 hzl hzm
              gi_wp2_with fail
              (refine wpIn_region_held_round (S := (fun w' => w'.cell? ⟨B + 2, 0, none⟩ = some (.map (some (B + 1))) ∧ w'.cell? ⟨B + 3, 0, none⟩ = some (.int .i64 (pre.length : Nat)))) (by kernel_rfl) (by kernel_rfl) (by first | exact not_letsOut | (rintro ⟨_, _, h⟩; exact h)) ?_ (fun hHd => ?_); (focus ((try dsimp only); exact ⟨e2, e3⟩)))
              (refine takeH (i := 0) (oi := ?o65) (v := ?v65) ?h65 (by kernel_rfl) ?q65 (Or.inl ⟨?w65, ?y65⟩) (by assumption) ?r65; (case h65 => ((simp only [g1, g3]); rfl)); (case q65 => exact fun _ _ _ h => h); (case w65 => rfl); (case y65 => (intro w' hSw; (try dsimp only at hSw); go_simp; (try with_reducible rfl))); (try simp only [Act.put, s1, s2, s3]))
              (refine takeH (i := 1) (oi := ?o66) (v := ?v66) ?h66 (by kernel_rfl) ?q66 (Or.inl ⟨?w66, ?y66⟩) (by assumption) ?r66; (case h66 => ((simp only [g1, g2, g3]); rfl)); (case q66 => exact fun _ _ _ h => h); (case w66 => rfl); (case y66 => (intro w' hSw; (try dsimp only at hSw); go_simp; (try with_reducible rfl))); (try simp only [Act.put, s1, s2, s3]))
              (refine takeH (i := 2) (oi := ?o67) (v := ?v67) ?h67 (by kernel_rfl) ?q67 (Or.inl ⟨?w67, ?y67⟩) (by assumption) ?r67; (case h67 => ((simp only [g1, g2, g3]); rfl)); (case q67 => exact fun _ _ _ h => h); (case w67 => rfl); (case y67 => (intro w' hSw; (try dsimp only at hSw); go_simp; (try with_reducible rfl))); (try simp only [Act.put, s1, s2, s3]))
              (refine takeH (i := 3) (oi := ?o68) (v := ?v68) ?h68 (by kernel_rfl) ?q68 (Or.inl ⟨?w68, ?y68⟩) (by assumption) ?r68; (case h68 => ((simp only [g1, g2, g3]); rfl)); (case q68 => exact fun _ _ _ h => h); (case w68 => rfl); (case y68 => (intro w' hSw; (try dsimp only at hSw); go_simp; (try with_reducible rfl))); (try simp only [Act.put, s1, s2, s3]))
              (refine wpAnyH_ready (rs := [4]) (by kernel_rfl) (by simp) ?_; refine AllReadyH.cons (o := ?o69) ?h69 (fun K hK => ?s69) AllReadyH.nil; (case h69 => (first | ((simp only [g1, g2, g3]); rfl) | rfl)); go_simp; (try dsimp only); refine hK.out _ _ ?_ (fun hHd => ?_); (focus ((try dsimp only); exact ⟨(Blk.kp HRd.out.z2 (show Kp wd _ from (by (repeat (first | with_reducible assumption | with_reducible exact Kp.refl _ | with_reducible refine Kp.drew ?_ | with_reducible refine Kp.drewN ?_ _ | with_reducible refine Kp.alloc ?_ _ | ((with_reducible refine Kp.setCell ?_ ?_ _); rotate_left; (focus (first | omega | (simp; done) | (simp; omega)))) | with_reducible refine Kp.trans ?_ (by assumption)))))).cell 0 rfl, (Blk.kp HRd.out.z3 (show Kp wd _ from (by (repeat (first | with_reducible assumption | with_reducible exact Kp.refl _ | with_reducible refine Kp.drew ?_ | with_reducible refine Kp.drewN ?_ _ | with_reducible refine Kp.alloc ?_ _ | ((with_reducible refine Kp.setCell ?_ ?_ _); rotate_left; (focus (first | omega | (simp; done) | (simp; omega)))) | with_reducible refine Kp.trans ?_ (by assumption)))))).cell 0 rfl⟩)); clear hK K; (try simp only [Act.put, s1, s2, s3]))
              (refine wpAnyH_ready (rs := [5]) (by kernel_rfl) (by simp) ?_; refine AllReadyH.cons (o := ?o70) ?h70 (fun K hK => ?s70) AllReadyH.nil; (case h70 => (first | ((simp only [g1, g2, g3]); rfl) | rfl)); (refine appendAtW (.tmp 49) (.tmp 51) ?ho71 (ownsInts_kp HOI.out (show Kp wd _ from (by (repeat (first | with_reducible assumption | with_reducible exact Kp.refl _ | with_reducible refine Kp.drew ?_ | with_reducible refine Kp.drewN ?_ _ | with_reducible refine Kp.alloc ?_ _ | ((with_reducible refine Kp.setCell ?_ ?_ _); rotate_left; (focus (first | omega | (simp; done) | (simp; omega)))) | with_reducible refine Kp.trans ?_ (by assumption)))))) ?hs71 (p := (pre.length : Nat)) hpI (show Blk _ wd.heap.size [.int .i64 (pre.length : Nat)] 3 from (by (repeat (first | with_reducible assumption | ((with_reducible refine Blk.newL ?_ ?_); (focus (first | (simp; done) | omega)); rfl) | with_reducible refine Blk.drew ?_ | with_reducible refine Blk.drewN ?_ _ | with_reducible refine Blk.alloc ?_ _ | ((with_reducible refine Blk.other ?_ ?_ _); rotate_left; (focus (first | with_reducible assumption | omega | (simp; done) | (simp; omega)))))))) ?hx71 ?hl71 ?hz71 ?_; (case ho71 => rfl); (case hs71 => rfl); (case hx71 => rfl); (case hl71 => first | omega | (simp; done)); (case hz71 => simp; omega); intro v' w1 hown' hgrow hloc; have hlo := HRd.out.low HOI.out (show Kp wd _ from (by (repeat (first | with_reducible assumption | with_reducible exact Kp.refl _ | with_reducible refine Kp.drew ?_ | with_reducible refine Kp.drewN ?_ _ | with_reducible refine Kp.alloc ?_ _ | ((with_reducible refine Kp.setCell ?_ ?_ _); rotate_left; (focus (first | omega | (simp; done) | (simp; omega)))) | with_reducible refine Kp.trans ?_ (by assumption))))) hgrow; have hg1 := grown_trans (Kp.grownBy (Kp.trans k0 (show Kp wd _ from (by (repeat (first | with_reducible assumption | with_reducible exact Kp.refl _ | with_reducible refine Kp.drew ?_ | with_reducible refine Kp.drewN ?_ _ | with_reducible refine Kp.alloc ?_ _ | ((with_reducible refine Kp.setCell ?_ ?_ _); rotate_left; (focus (first | omega | (simp; done) | (simp; omega)))) | with_reducible refine Kp.trans ?_ (by assumption))))))) hgrow); refine hK.out _ _ ?_ (fun hHd => ?_); (focus ((try dsimp only); exact hlo)); clear hK K; (try simp only [Act.put]))
              (refine wpAnyH_ready (rs := [6]) (by kernel_rfl) (by simp) ?_; refine AllReadyH.cons (o := ?o72) ?h72 (fun K hK => ?s72) AllReadyH.nil; (case h72 => (first | ((simp only [g1, g2, g3]); rfl) | rfl)); (refine mapBackW (p := (pre.length : Nat)) (.tmp 47) (.tmp 48) (.tmp 52) ?ho73 HB.out ?hm73 ?hx73 ?hv73 hg1 (by rw [hz]; exact hown') (hloc.imp id (fun h => ⟨_, h, by simp; omega⟩)) ?_; (case ho73 => rfl); (case hm73 => rfl); (case hx73 => rfl); (case hv73 => rfl); intro w2 hG2 hgrow2); refine hK.out _ _ ?_ (fun hHd => ?_); (focus ((try dsimp only); exact low2 hlo hgrow2)); clear hK K; (try simp only [Act.put]))
              refine wpAnyH_done (by kernel_rfl) ?_ _
              gi_wp2_with fail
              go_roundw
              case rel => exact ⟨j + 1, by omega, by go_num, ⟨c' + 1, by omega, InR.step HR.out hwB HNo.out HO0.out HKO.out hg1 hgrow2 (by rw [grpJ_out hx hnot, hLs]; exact hG2)⟩, by have := hg1.size; have := hgrow2.size; omega⟩
              case measure => simp [intOf]; omega
        · obtain rfl : j = m.length := by omega
          have c3 := hR.z3.cell 0 rfl
          have f3 := hR.z3.free 0
          have n3 := hR.z3.lt
          have jl : decide ((m.length : Int) < (m.length : Int)) = false := decide_eq_false (by omega)
          have ew : IntKind.i64.wrap (((pre.length : Nat) : Int) + 1) = ((pre.length : Nat) : Int) + 1 := by rw [IntKind.wrap_i64]; omega
          have HR := Lib.hid hR
          clear hR
          gi_wp2_with fail
          have hR := HR.out
          have hz3 := hR.z3.set 0 (.int .i64 ((pre ++ [x]).length : Nat))
          have ee : (((pre ++ [x]).length : Nat) : Int) = ((pre.length : Nat) : Int) + 1 := by simp
          refine ⟨z4 ▸ hR.kf.trans ((KeepsOthers.setCell _ _ _).from _), hR.ck.trans (CK.set _ (fun b h => (hbl b h).2) _), c', by simp; omega, ?_, hR.z0.other (a := ⟨B + 3, 0, none⟩) (by simp) _, hR.z2.other (a := ⟨B + 3, 0, none⟩) (by simp) _, ?_, hR.kp.setCell (p := ⟨B + 3, 0, none⟩) (by show w.heap.size ≤ B + 3; omega) _, ?_⟩
          · rw [HSN.out, ← grpJ_all]
            exact (hR.g.reno (fun g h => h.elim)).kept (grownBy_setCell' _ _ _) (by simp) (fun j e => .inl (by cases e; omega))
          · rw [ee] at hz3 ⊢
            exact hz3
          · have := hR.sz
            simp
            omega
  case done =>
    rintro D xs W hD rfl ⟨c, hc, hG, y0, y2, y3, hk, hz⟩ hK
    have hc2 := y2.cell 0 rfl
    rw [preL_firsts _ _ _ _ _ (Nat.le_refl _)] at hG
    change Grps W (B + 6) (B + 1) (fun _ => False) c (grpF (pagesL l cs P)) at hG
    have HF : Hid (∀ n, (grpF (pagesL l cs P) n).length ≤ 60 ∧ ∀ p, p ∈ grpF (pagesL l cs P) n → I64 p ∧ p ≠ 9223372036854775807) := Lib.hid fun n => by
      have hpl : (pagesL l cs P).length = nCh cs.length P := by simp [pagesL]
      have hN := HN.out
      refine ⟨by have := grpF_len (pagesL l cs P) n; omega, fun p hp => ?_⟩
      have := grpF_lt hp
      unfold I64
      omega
    obtain ⟨f, hf⟩ : ∃ f, grpF (pagesL l cs P) = f := ⟨_, rfl⟩
    rw [hf] at hG HF
    obtain ⟨⟨Dm, hown, hok⟩, _⟩ := hG
    have hmb := groups_lt hown
    have hmap := groups_map hown
    have hcc : c ≤ 360000 := by
      have := HN.out
      rw [firsts_length (Nat.le_refl _)] at hc
      omega
    have hsz0 := hmap.size_le
    have HOK := Lib.hid hok
    have HMAP := Lib.hid hmap
    have HHK := Lib.hid hK
    have HHD := Lib.hid hD
    have nB := y2.lt
    clear hown hok hc hmap hbl bM b0 b2 b3 bC bP y0 y3 CP HI HM hmm hK hD
    go_wp2_with (at_range; refine wpList_range_own _ rfl _ 69 rfl 3 23 law3 Tryd.underlying69 (RE W (B + 6)) (B + 1) c Dm rfl HMAP.out ?_; intro w0 hrg0 hg0 hs0)
    go_frame
    have kW0 : Kp W w0 := Below.grown (Kp.refl W) hg0 (Nat.le_refl _) (fun j e => by cases e)
    go_loopw [13] (fun v13 wr => ∃ L left cnt, Row wr (W.heap.size + 1) 26 2 Ent.cells v13 L ∧ wr.ranges Tryd.prog 3 (RE W (B + 6)) (B + 1) W.heap.size c Dm left cnt ∧ RngOk W Dm f left cnt L ∧ Kp W wr ∧ W.heap.size + 1 ≤ wr.heap.size) (fun _ wr => wr.rangeLeft (B + 1) W.heap.size)
    case atStart => exact ⟨[], _, _, Row.nil _ _ _ _ _, hrg0, RngOk.start, kW0, by omega⟩
    case round =>
      obtain ⟨L, left, cnt, hr, hrg, hok, hkw, hws⟩ := hrel
      have HRG := Lib.hid hrg
      have HR := Lib.hid hr
      have HK2 := Lib.hid hok
      have hfew := hok.few
      clear hrg0 hr hrg hok
      go_wp2_with (at_next; refine wpList_next_ranges _ rfl _ rfl 3 law3 (RE W (B + 6)) (Value.int .i64) (fun v : Value => v) key_inv (fun v y _ => ⟨v, rfl⟩) (B + 1) W.heap.size c Dm left cnt rfl HRG.out (fun hc0 hl0 => Hid.out ?_) (fun x v kl y w1 cnt1 hkx hlx hRv hat hrg1 hlt1 hg1 hs1 hen => Hid.out ?_))
      · refine Lib.hid ?_
        go_wp2_with fail
        refine (sort_any (W.heap.size + 1) _ L _ HR.out (by omega)).mono ?_
        rintro e w2 ⟨rfl, L', ra, rc, rfl, hp, hsorted, hs2, hg2⟩
        have hix := RngOk.index HK2.out HOK.out hl0 hp hsorted
        have hkw2 : Kp W w2 := Below.grown hkw hg2 hkw.size (fun j e => by have := (HR.out.lt j e).1; omega)
        have hK2 : w2.heap[D]? = some (.deferred (some [])) := (Below.block hkw2 D (Array.getElem?_eq_some_iff.1 HHK.out).1).trans HHK.out
        have hgood : ∀ y, y ∈ L' → y.good W := fun y hy => by
          obtain ⟨q1, q2, q3⟩ := hix.each y hy
          obtain ⟨_, _, _, _, q5, q6⟩ := HK2.out.each y (hp.mem_iff.1 hy)
          have h9 := HF.out y.n
          exact ⟨q1, q5, q6, by rw [q3]; omega, by rw [q3]; exact h9.2⟩
        have HGD := Lib.hid hgood
        have HIX := Lib.hid hix
        have HS2 := Lib.hid hs2
        clear hp hsorted hix hgood hs2 hg2 hl0 HK2 HRG HR
        go_wp2
        refine ⟨by simp, .inl ⟨_, _, rfl, run_takeDeferred hK2, ?_⟩⟩
        refine ⟨_, results_tmp rfl _ _ _, ra, rc, L', rfl, HS2.out.grownC (grownBy_putObj' w2 D _) (fun r e => by cases e; exact ⟨_, hK2, rfl⟩), fun y hy => ?_, (by rw [hf]; exact HIX.out), (hk.trans hkw2).mark _ (by have := HHD.out; have := k4.size; omega) hK2⟩
        have hgy := (HGD.out y hy).kp hkw2
        exact ⟨hgy.n, hgy.s.grownC (grownBy_putObj' w2 D _) (fun r e => by cases e; exact ⟨_, hK2, rfl⟩), hgy.len, hgy.few, hgy.ok⟩
      · refine Lib.hid ?_
        obtain ⟨ea, ec, hve, hxi, hok1⟩ := HK2.out.step HOK.out hkx hlx hRv hat hlt1
        change v = _ at hve
        subst hve
        have HR1 : Hid (Row w1 (W.heap.size + 1) 26 2 Ent.cells _ L) := Lib.hid (World.ownsRow.kept HR.out hg1 (.inr fun e => by have := (HR.out.lt _ e).1; omega))
        have HRG1 := Lib.hid hrg1
        have HOK1 := Lib.hid hok1
        have hkw1 : Kp W w1 := Below.grown hkw hg1 hkw.size (fun j e => by cases e; exact Nat.le_refl _)
        have hll := HRG.out.left_eq
        have hk1s := hkw1.size
        clear hRv hat hkx hlx hrg1 hok1 hg1 HR HRG hs1
        go_wp2_with (at_builtin; go_loud (refine rowAppendG ?gd (.tmp 63) (.tmp 67) 22 ?ho Tryd.underlying22 infoE1 rfl (by decide) (HR1.out.alloc _) ?hs (y := (⟨x, ⟨ea, (f x).length, ec, f x⟩⟩ : Ent)) rfl (Ent.cells_one _) (Blk.new _ _ 26) ?hx ?hl ?hb ?hz ?_; (case gd => rfl); (case ho => rfl); (case hs => rfl); (case hx => rfl); (case hl => unfold maxLen; omega); (case hb => omega); (case hz => simp; omega); intro v' w' hr' hgr hbb))
        have hra := HRG1.out.alloc (.cells #[.int .i64 x, .slice ea (f x).length ec] 26)
        have hra2 := hra.kept hgr (fun e => by have := hbb _ e.symm; omega) (fun e => by have := hbb _ e.symm; omega)
        go_roundw
        case rel => exact ⟨_, _, cnt1, hr', hra2, HOK1.out, Below.grown (hkw1.alloc _) hgr (by have := hkw1.size; simp; omega) (fun j e => by have := hbb j e; omega), by have := hgr.size; simp at this; omega⟩
        case measure => rw [hra2.left_eq, hll]; exact hlt1
  case stop =>
    rintro D c pre W _ _ h _
    exact h.elim
end Go.Proofs.YtkgfnkfgmnijbaaDoor
