/- Marks: Of by definition. -/
import Derived.Test.YtiimbkiiffimiaaMark4

namespace Go.Proofs.Ytiimbkiiffimiaa

open Go.ChangeShapes Go.WideShapes Go.ChangeAt Go.RowKit Go.Shelf

theorem markOf_no (a ca : Option Addr) (len cap clen ccap : Nat) (per : Int) (w : World) (hp : per < 1) :
    Calls Try.prog 6 #[.slice a len cap, .slice ca clen ccap, .int .i64 per] w fun e w' => e = .returned (.slice none 0 0) ∧ Kp w w' := by
  have j1 : decide (per < 1) = true := decide_eq_true hp
  refine calls_marks Try.func6 rfl ?_
  simp only [Try.ntmps6, List.size_toArray, List.length_cons, List.length_nil, Nat.reduceAdd, Nat.reduceSub, Array.replicate_succ, Array.replicate_zero, List.push_toArray, List.append_toArray, List.nil_append, List.cons_append]
  go_wp2
  exact ⟨_, results_tmp rfl _ _ _, rfl, (by (repeat (first | with_reducible assumption | with_reducible exact Kp.refl _ | with_reducible refine Kp.drew ?_ | with_reducible refine Kp.drewN ?_ _ | with_reducible refine Kp.alloc ?_ _ | ((with_reducible refine Kp.setCell ?_ ?_ _); rotate_left; (focus (first | omega | (simp; done) | (simp; omega)))) | with_reducible refine Kp.trans ?_ (by assumption))))⟩
theorem refOfM_no (a ca : Option Addr) (len cap clen ccap : Nat) (per : Int) (w : World) (hp : per < 1) :
    Calls Try.prog 7 #[.slice a len cap, .slice ca clen ccap, .int .i64 per] w fun e w' => e = .returned (.slice none 0 0) ∧ Kp w w' := by
  have j1 : decide (per < 1) = true := decide_eq_true hp
  go_enter Try.func7, Try.ntmps7
  go_wp2
  go_ret
  exact ⟨rfl, (by (repeat (first | with_reducible assumption | with_reducible exact Kp.refl _ | with_reducible refine Kp.drew ?_ | with_reducible refine Kp.drewN ?_ _ | with_reducible refine Kp.alloc ?_ _ | ((with_reducible refine Kp.setCell ?_ ?_ _); rotate_left; (focus (first | omega | (simp; done) | (simp; omega)))) | with_reducible refine Kp.trans ?_ (by assumption))))⟩
theorem SlOk.takeN {α : Type} {w : World} {n : Nat} {enc : α → List Value} {a : Option Addr} {len cap : Nat} {l : List α} (h : SlOk w n enc a len cap l) {k : Nat} (hk : k ≤ len) : SlOk w n enc a (l.take k).length cap (l.take k) := by
  obtain ⟨hl, hc, hm, hh⟩ := h
  refine ⟨rfl, by rw [List.length_take]; omega, hm, ?_⟩
  rcases hh with rfl | ⟨b, off, rfl, hb, hr⟩
  · left; simp
  · refine .inr ⟨b, off, rfl, hb, fun i x hx j v hv => ?_⟩
    rw [List.getElem?_take] at hx
    split at hx
    · exact hr i x hx j v hv
    · cases hx
theorem getLastD_append {l r : List Int} (d : Int) : (l ++ r).getLastD d = r.getLastD (l.getLastD d) := by
  simp only [List.getLastD_eq_getLast?, List.getLast?_append]
  cases r.getLast? <;> simp
theorem take_chunk (cs : List Col) (P k : Nat) (_h : k * P < cs.length) : cs.take ((k + 1) * P) = cs.take (k * P) ++ chunkL cs P k := by
  have e : chunkL cs P k = (cs.drop (k * P)).take P := by
    unfold chunkL
    rw [List.drop_take, Nat.add_sub_cancel_left]
    rcases Nat.le_total P (cs.length - k * P) with h1 | h1
    · rw [Nat.min_eq_left h1]
    · rw [Nat.min_eq_right h1, List.take_of_length_le (by rw [List.length_drop]; omega), List.take_of_length_le (by rw [List.length_drop]; omega)]
  rw [e, Nat.add_mul, Nat.one_mul, List.take_add]
theorem pageL_append (l : List Item) (xs ys : List Col) : pageL l (xs ++ ys) = pageL l xs ++ pageL l ys := by unfold pageL; rw [List.flatMap_append]
theorem lastK_eq (l : List Item) (cs : List Col) (P : Nat) : ∀ k, (∀ j, j < k → j * P < cs.length) → lastK (pgs l cs P) k = (pageL l (cs.take (k * P))).getLastD (-1)
  | 0, _ => by rw [Nat.zero_mul, List.take_zero]; rfl
  | k + 1, h => by
    have ih := lastK_eq l cs P k (fun j hj => h j (by omega))
    rw [take_chunk cs P k (h k (by omega)), pageL_append, getLastD_append, ← ih]
    rfl
theorem last_at {p : List Int} {n : Nat} (h : p.length = n + 1) (d : Int) : p[n]? = some (p.getLastD d) := by
  rw [List.getLastD_eq_getLast?, List.getLast?_eq_getElem?, h, Nat.add_sub_cancel, List.getElem?_eq_getElem (by omega)]; rfl
theorem head_at {p : List Int} {n : Nat} (h : p.length = n + 1) (d : Int) : p[0]? = some (p.headD d) := by
  cases p with
  | nil => simp at h
  | cons x q => rfl

set_option maxRecDepth 100000 in
set_option maxHeartbeats 2000000 in
theorem refOfM_yes (a ca : Option Addr) (cap ccap : Nat) (l : List Item) (cs : List Col) (P : Nat) (w : World) (hl : SlOk w 7 Item.cells a l.length cap l) (hc : SlOk w 6 Col.cells ca cs.length ccap cs) (h4 : l.length ≤ 100) (h6 : cs.length ≤ 60) (hP : 1 ≤ P) (hP2 : P ≤ 9223372036854775807) :
    Calls Try.prog 7 #[.slice a l.length cap, .slice ca cs.length ccap, .int .i64 (P : Int)] w fun e w' => ∃ v, e = .returned v ∧ Row w' w.heap.size 31 3 encM v (ofL l cs P) ∧ Kp w w' := by
  have hcl := hc.2.1
  have hcm := hc.2.2.1
  unfold maxLen at hcm
  have HC := Lib.hid hc
  have HLI := Lib.hid hl
  have CP : Hid (∀ (c : Option Addr) (cc : Nat) (xs : List Col) (n : Nat) (w' : World), xs.length = n → n ≤ 60 → Kp w w' → SlOk w 6 Col.cells c n cc xs → Calls Try.prog 12 #[.slice a l.length cap, .slice c n cc] w' fun e w'' => ∃ v, e = .returned v ∧ Row w'' w'.heap.size 3 1 enc1 v (pageL l xs) ∧ Kp w' w'') := Lib.hid (fun c cc xs n w' hn h60 kk hx => by
    subst hn
    exact refPage_any a c cap cc l xs w' (hl.kp kk) (hx.kp kk) h4 h60)
  have j1 : decide ((P : Int) < 1) = false := decide_eq_false (by omega)
  have hP0 : ¬ P = 0 := by omega
  clear hl hc
  go_enter Try.func7, Try.ntmps7
  go_wp2
  go_loopw [7, 8] (fun v7 v8 wr => ∃ (k i : Nat), k ≤ nCh cs.length P ∧ v8 = .int .i64 (i : Int) ∧ (k < nCh cs.length P → i = k * P) ∧ (k = nCh cs.length P → cs.length ≤ i) ∧ i ≤ 100000 ∧ Row wr w.heap.size 31 3 encM v7 ((List.range k).map (mkAt (pgs l cs P))) ∧ Kp w wr) (fun _ v8 _ => cs.length - (intOf v8).toNat)
  case atStart => exact ⟨0, 0, Nat.zero_le _, rfl, fun _ => by rw [Nat.zero_mul], fun h => by have := fun hh => (lt_nCh (len := cs.length) (k := 0) hP).2 hh; omega, by omega, Row.nil _ _ _ _ _, (by (repeat (first | with_reducible assumption | with_reducible exact Kp.refl _ | with_reducible refine Kp.drew ?_ | with_reducible refine Kp.drewN ?_ _ | with_reducible refine Kp.alloc ?_ _ | ((with_reducible refine Kp.setCell ?_ ?_ _); rotate_left; (focus (first | omega | (simp; done) | (simp; omega)))) | with_reducible refine Kp.trans ?_ (by assumption))))⟩
  case round =>
    obtain ⟨k, i, hk, rfl, hik, hil, hi5, xr, xk⟩ := hrel
    by_cases hlt : i < cs.length
    · have hkN : k < nCh cs.length P := by
        rcases Nat.lt_or_ge k (nCh cs.length P) with h | h
        · exact h
        · have := hil (by omega); omega
      have hiP := hik hkN
      have hkl := (lt_nCh hP).1 hkN
      have hbef : ∀ j, j < k → j * P < cs.length := fun j hj => Nat.lt_of_le_of_lt (Nat.mul_le_mul_right P (Nat.le_of_lt hj)) hkl
      have hlk := lastK_eq l cs P k hbef
      rcases HC.out.2.2.2 with e | ⟨b, off, rfl, hb, _⟩
      · rw [e] at hlt; simp at hlt
      · have hs1 := HC.out.takeN (k := i) (by omega)
        rw [List.length_take, Nat.min_eq_left (by omega)] at hs1
        obtain ⟨D, hD⟩ : ∃ D, cs.length - i = D := ⟨_, rfl⟩
        have ew1 : IntKind.i64.wrap ((cs.length : Int) - (i : Int)) = (D : Int) := by rw [IntKind.wrap_i64]; omega
        obtain ⟨m, hm, hif⟩ : ∃ m, min P (cs.length - i) = m ∧ (if D < P then (D : Int) else (P : Int)) = (m : Int) := ⟨_, rfl, by split <;> omega⟩
        have hcs : SlOk w 6 Col.cells (some ⟨b, off + k * P * 6, none⟩) (chunkL cs P k).length (ccap - k * P) (chunkL cs P k) := HC.out.part (by omega) (by omega) (by omega) (by omega)
        rw [chunkL_length hkl, ← hiP, hm] at hcs
        have hcl2 := chunkL_length hkl
        rw [← hiP, hm] at hcl2
        obtain ⟨p1, hp1⟩ : ∃ p, pageL l (cs.take (k * P)) = p := ⟨_, rfl⟩
        obtain ⟨p2, hp2⟩ : ∃ p, pgs l cs P k = p := ⟨_, rfl⟩
        rw [hp1] at hlk
        have hmk : mkAt (pgs l cs P) k = ⟨p1.getLastD (-1), p2.headD (p1.getLastD (-1)), p2.getLastD (p1.getLastD (-1))⟩ := by
          unfold mkAt
          rw [show lastK (pgs l cs P) (k + 1) = (pgs l cs P k).getLastD (lastK (pgs l cs P) k) from rfl, hlk, hp2]
        have HRW : Hid ((List.range (k + 1)).map (mkAt (pgs l cs P)) = (List.range k).map (mkAt (pgs l cs P)) ++ [⟨p1.getLastD (-1), p2.headD (p1.getLastD (-1)), p2.getLastD (p1.getLastD (-1))⟩]) := Lib.hid (by
          rw [List.range_succ, List.map_append, List.map_cons, List.map_nil, hmk])
        have CA : Hid (∀ w', Kp w w' → Calls Try.prog 12 #[.slice a l.length cap, .slice (some ⟨b, off, none⟩) i ccap] w' fun e w'' => ∃ v, e = .returned v ∧ Row w'' w'.heap.size 3 1 enc1 v p1 ∧ Kp w' w'') := Lib.hid (fun w' kk => by
          have h := CP.out _ _ _ i w' (by rw [List.length_take]; omega) (by omega) kk hs1
          rw [hiP, hp1, ← hiP] at h; exact h)
        have CB : Hid (∀ w', Kp w w' → Calls Try.prog 12 #[.slice a l.length cap, .slice (some ⟨b, off + i * 6, none⟩) m (ccap - i)] w' fun e w'' => ∃ v, e = .returned v ∧ Row w'' w'.heap.size 3 1 enc1 v p2 ∧ Kp w' w'') := Lib.hid (fun w' kk => by
          have h := CP.out _ _ _ m w' hcl2 (by omega) kk hcs
          unfold pgs at hp2
          rw [hp2] at h; exact h)
        obtain ⟨ml, hml, hml1, hml6, hif2⟩ : ∃ ml, min P cs.length = ml ∧ 1 ≤ ml ∧ ml ≤ 60 ∧ (if cs.length < P then (cs.length : Int) else (P : Int)) = (ml : Int) := ⟨_, rfl, by omega, by omega, by split <;> omega⟩
        have HNX : Hid ((k + 1 < nCh cs.length P → i + ml = (k + 1) * P) ∧ (k + 1 = nCh cs.length P → cs.length ≤ i + ml) ∧ i + ml ≤ 100000) := Lib.hid (by
          have e1 : (k + 1) * P = i + P := by rw [Nat.add_mul, Nat.one_mul, ← hiP]
          refine ⟨fun h => ?_, fun h => ?_, by omega⟩
          · have := (lt_nCh hP).1 h; omega
          · have : ¬ (k + 1) * P < cs.length := fun hh => by have := (lt_nCh hP).2 hh; omega
            omega)
        have HKN := Lib.hid hkN
        have hkb : k + 1 ≤ 5000 := by
          have : k ≤ k * P := Nat.le_mul_of_pos_right _ (by omega)
          omega
        have hm1 : 1 ≤ m := by omega
        have hm2 : i + m ≤ cs.length := by omega
        have hle : i ≤ cs.length := by omega
        have hle2 : i ≤ ccap := by omega
        have hle3 : i + m ≤ ccap := by omega
        have hne : ¬ ccap = i := by omega
        have hn0 : ¬ ccap = 0 := by omega
        obtain ⟨J, hJ⟩ : ∃ J, i + m = J := ⟨_, rfl⟩
        have ew2 : IntKind.i64.wrap ((i : Int) + (m : Int)) = (J : Int) := by rw [IntKind.wrap_i64]; omega
        have eJ : J - i = m := by omega
        have hJ1 : J ≤ ccap := by omega
        have hJ2 : i ≤ J := by omega
        clear hJ hle3 hm2
        have HXR := Lib.hid xr
        have HIF2 := Lib.hid hif2
        clear hD hcs hcl2 hp1 hp2 hlk hmk hs1 hm hml hik hil hiP hkl hbef hkN xr hif2 CP HC HLI
        go_wp2_with fail
        (refine wp_region_held_drew (S := (fun w' => (∀ b o, b < w.heap.size → w'.cell? ⟨b, o, none⟩ = w.cell? ⟨b, o, none⟩) ∧ Kp w w')) (by kernel_rfl) ?_ (fun hHd => ?_); (focus ((try dsimp only); (first | with_reducible assumption | with_reducible exact held_start _ | with_reducible exact held_next (by assumption) (by assumption) | with_reducible exact held_alloc (by assumption) _ | with_reducible exact held_drew (by assumption) | ((with_reducible refine held_kp ?_); (repeat (first | with_reducible assumption | with_reducible exact Kp.refl _ | with_reducible refine Kp.drew ?_ | with_reducible refine Kp.drewN ?_ _ | with_reducible refine Kp.alloc ?_ _ | ((with_reducible refine Kp.setCell ?_ ?_ _); rotate_left; (focus (first | omega | (simp; done) | (simp; omega)))) | with_reducible refine Kp.trans ?_ (by assumption))))))))
        (refine takeH (i := 0) (oi := ?o1) (v := ?v1) ?h1 (by kernel_rfl) ?q1 (Or.inl ⟨?w1, ?y1⟩) (by assumption) ?r1; (case h1 => ((simp only [g1, g3]); rfl)); (case q1 => exact fun _ _ _ h => h); (case w1 => rfl); (case y1 => (intro w' hSw; (try dsimp only at hSw); go_simp; (try with_reducible rfl))); (try simp only [Act.put, s1, s2, s3]))
        (refine takeH (i := 1) (oi := ?o2) (v := ?v2) ?h2 (by kernel_rfl) ?q2 (Or.inl ⟨?w2, ?y2⟩) (by assumption) ?r2; (case h2 => ((simp only [g1, g2, g3]); rfl)); (case q2 => exact fun _ _ _ h => h); (case w2 => rfl); (case y2 => (intro w' hSw; (try dsimp only at hSw); go_simp; (try with_reducible rfl))); (try simp only [Act.put, s1, s2, s3]))
        (refine takeH (i := 2) (oi := ?o3) (v := ?v3) ?h3 (by kernel_rfl) ?q3 (Or.inl ⟨?w3, ?y3⟩) (by assumption) ?r3; (case h3 => ((simp only [g1, g2, g3]); rfl)); (case q3 => exact fun _ _ _ h => h); (case w3 => rfl); (case y3 => (intro w' hSw; (try dsimp only at hSw); go_simp; (try with_reducible rfl))); (try simp only [Act.put, s1, s2, s3]))
        (refine takeH (i := 3) (oi := ?o4) (v := ?v4) ?h4 (by kernel_rfl) ?q4 (Or.inl ⟨?w4, ?y4⟩) (by assumption) ?r4; (case h4 => ((simp only [g1, g2, g3]); rfl)); (case q4 => exact fun _ _ _ h => h); (case w4 => rfl); (case y4 => (intro w' hSw; (try dsimp only at hSw); go_simp; (try with_reducible rfl))); (try simp only [Act.put, s1, s2, s3]))
        (refine takeH (i := 5) (oi := ?o5) (v := ?v5) ?h5 (by kernel_rfl) ?q5 (Or.inl ⟨?w5, ?y5⟩) (by assumption) ?r5; (case h5 => ((simp only [g1, g2, g3]); rfl)); (case q5 => exact fun _ _ _ h => h); (case w5 => rfl); (case y5 => (intro w' hSw; (try dsimp only at hSw); go_simp; (try with_reducible rfl))); (try simp only [Act.put, s1, s2, s3]))
        (refine takeH (i := 6) (oi := ?o6) (v := ?v6) ?h6 (by kernel_rfl) ?q6 (Or.inl ⟨?w6, ?y6⟩) (by assumption) ?r6; (case h6 => ((simp only [g1, g2, g3]); rfl)); (case q6 => exact fun _ _ _ h => h); (case w6 => rfl); (case y6 => (intro w' hSw; (try dsimp only at hSw); go_simp; (try with_reducible rfl))); (try simp only [Act.put, s1, s2, s3]))
        (refine takeH (i := 7) (oi := ?o7) (v := ?v7) ?h7 (by kernel_rfl) ?q7 (Or.inl ⟨?w7, ?y7⟩) (by assumption) ?r7; (case h7 => ((simp only [g1, g2, g3]); rfl)); (case q7 => exact fun _ _ _ h => h); (case w7 => rfl); (case y7 => (intro w' hSw; (try dsimp only at hSw); go_simp; (try with_reducible rfl))); (try simp only [Act.put, s1, s2, s3]))
        (refine takeH (i := 8) (oi := ?o8) (v := ?v8) ?h8 (by kernel_rfl) ?q8 (Or.inl ⟨?w8, ?y8⟩) (by assumption) ?r8; (case h8 => ((simp only [g1, g2, g3]); rfl)); (case q8 => exact fun _ _ _ h => h); (case w8 => rfl); (case y8 => (intro w' hSw; (try dsimp only at hSw); go_simp; (try with_reducible rfl))); (try simp only [Act.put, s1, s2, s3]))
        (refine takeH (i := 9) (oi := ?o9) (v := ?v9) ?h9 (by kernel_rfl) ?q9 (Or.inl ⟨?w9, ?y9⟩) (by assumption) ?r9; (case h9 => ((simp only [g1, g2, g3]); rfl)); (case q9 => exact fun _ _ _ h => h); (case w9 => rfl); (case y9 => (intro w' hSw; (try dsimp only at hSw); go_simp; (try with_reducible rfl))); (try simp only [Act.put, s1, s2, s3]))
        (refine takeH (i := 10) (oi := ?o10) (v := ?v10) ?h10 (by kernel_rfl) ?q10 (Or.inl ⟨?w10, ?y10⟩) (by assumption) ?r10; (case h10 => ((simp only [g1, g2, g3]); rfl)); (case q10 => exact fun _ _ _ h => h); (case w10 => rfl); (case y10 => (intro w' hSw; (try dsimp only at hSw); go_simp; (try with_reducible rfl))); (try simp only [Act.put, s1, s2, s3]))
        (refine takeH (i := 11) (oi := ?o11) (v := ?v11) ?h11 (by kernel_rfl) ?q11 (Or.inl ⟨?w11, ?y11⟩) (by assumption) ?r11; (case h11 => ((simp only [g1, g2, g3]); rfl)); (case q11 => exact fun _ _ _ h => h); (case w11 => rfl); (case y11 => (intro w' hSw; (try dsimp only at hSw); go_simp; (try with_reducible rfl))); (try simp only [Act.put, s1, s2, s3]))
        (refine takeH (i := 12) (oi := ?o12) (v := ?v12) ?h12 (by kernel_rfl) ?q12 (Or.inl ⟨?w12, ?y12⟩) (by assumption) ?r12; (case h12 => ((simp only [g1, g2, g3]); rfl)); (case q12 => exact fun _ _ _ h => h); (case w12 => rfl); (case y12 => (intro w' hSw; (try dsimp only at hSw); go_simp; (try with_reducible rfl))); (try simp only [Act.put, s1, s2, s3]))
        (refine takeH (i := 13) (oi := ?o13) (v := ?v13) ?h13 (by kernel_rfl) ?q13 (Or.inl ⟨?w13, ?y13⟩) (by assumption) ?r13; (case h13 => ((simp only [g1, g2, g3]); rfl)); (case q13 => exact fun _ _ _ h => h); (case w13 => rfl); (case y13 => (intro w' hSw; (try dsimp only at hSw); go_simp; (try with_reducible rfl))); (try simp only [Act.put, s1, s2, s3]))
        (refine takeH (i := 14) (oi := ?o14) (v := ?v14) ?h14 (by kernel_rfl) ?q14 (Or.inl ⟨?w14, ?y14⟩) (by assumption) ?r14; (case h14 => ((simp only [g1, g2, g3]); rfl)); (case q14 => exact fun _ _ _ h => h); (case w14 => rfl); (case y14 => (intro w' hSw; (try dsimp only at hSw); go_simp; (try with_reducible rfl))); (try simp only [Act.put, s1, s2, s3]))
        (refine takeH (i := 15) (oi := ?o15) (v := ?v15) ?h15 (by kernel_rfl) ?q15 (Or.inl ⟨?w15, ?y15⟩) (by assumption) ?r15; (case h15 => ((simp only [g1, g2, g3]); rfl)); (case q15 => exact fun _ _ _ h => h); (case w15 => rfl); (case y15 => (intro w' hSw; (try dsimp only at hSw); go_simp; (try with_reducible rfl))); (try simp only [Act.put, s1, s2, s3]))
        (refine takeH (i := 16) (oi := ?o16) (v := ?v16) ?h16 (by kernel_rfl) ?q16 (Or.inl ⟨?w16, ?y16⟩) (by assumption) ?r16; (case h16 => ((simp only [g1, g2, g3]); rfl)); (case q16 => exact fun _ _ _ h => h); (case w16 => rfl); (case y16 => (intro w' hSw; (try dsimp only at hSw); go_simp; (try with_reducible rfl))); (try simp only [Act.put, s1, s2, s3]))
        (refine wpAnyH_ready (rs := [4]) (by kernel_rfl) (by simp) ?_; refine AllReadyH.cons (o := ?o17) ?h17 (fun K hK => ?s17) AllReadyH.nil; (case h17 => (first | ((simp only [g1, g2, g3]); rfl) | rfl)); (go_simp; go_at_call 12; refine (CA.out _ hHd.2).mono ?_; rintro e w5 ⟨v1, rfl, xv1, kk⟩; (try dsimp only)); refine hK.out _ _ ?_ (fun hHd => ?_); (focus ((try dsimp only); exact held_kp (hHd.2.trans kk))); clear hK K; (try simp only [Act.put]))
        (refine wpAnyH_ready (rs := [17]) (by kernel_rfl) (by simp) ?_; refine AllReadyH.cons (o := ?o19) ?h19 (fun K hK => ?s19) AllReadyH.nil; (case h19 => (first | ((simp only [g1, g2, g3]); rfl) | rfl)); (go_simp; go_at_call 12; refine (CB.out _ hHd.2).mono ?_; rintro e w6 ⟨v2, rfl, xv2, kk2⟩; (try dsimp only)); refine hK.out _ _ ?_ (fun hHd => ?_); (focus ((try dsimp only); exact held_kp (hHd.2.trans kk2))); clear hK K; (try simp only [Act.put]))
        (refine takeH (i := 18) (oi := ?o21) (v := ?v21) ?h21 (by kernel_rfl) ?q21 (Or.inl ⟨?w21, ?y21⟩) (by assumption) ?r21; (case h21 => ((simp only [g1, g2, g3]); rfl)); (case q21 => exact fun _ _ _ h => h); (case w21 => rfl); (case y21 => (intro w' hSw; (try dsimp only at hSw); go_simp; (try with_reducible rfl))); (try simp only [Act.put, s1, s2, s3]))
        (refine takeH (i := 19) (oi := ?o22) (v := ?v22) ?h22 (by kernel_rfl) ?q22 (Or.inl ⟨?w22, ?y22⟩) (by assumption) ?r22; (case h22 => ((simp only [g1, g2, g3]); rfl)); (case q22 => exact fun _ _ _ h => h); (case w22 => rfl); (case y22 => (intro w' hSw; (try dsimp only at hSw); go_simp; (try with_reducible rfl))); (try simp only [Act.put, s1, s2, s3]))
        refine wpAnyH_done (by kernel_rfl) ?_ _
        have kw6 : Kp w w6 := hHd.2
        have x6 := HXR.out.kp (((Kp.refl wr).drew.trans kk).trans kk2)
        have hv1 := xv1.kp kk2
        obtain ⟨a1, c1, rfl, s1⟩ := hv1.sl (fun _ => rfl)
        obtain ⟨a2, c2, rfl, s2⟩ := xv2.sl (fun _ => rfl)
        obtain ⟨q1, hq1⟩ : ∃ q, p1.length = q := ⟨_, rfl⟩
        obtain ⟨q2, hq2⟩ : ∃ q, p2.length = q := ⟨_, rfl⟩
        have HLN : Hid (((List.range k).map (mkAt (pgs l cs P))).length + 1 ≤ 5000) := Lib.hid (by simp; omega)
        have hml60 : ml ≤ 60 := hml6
        rw [hq1] at s1 ⊢
        rw [hq2] at s2 ⊢
        clear hHd hv1 xv1 xv2 kk kk2 CA CB HXR ew1 ew2 eJ hJ1 hJ2 hif hml6
        rcases q1 with _ | n1
        · have e1 := List.eq_nil_of_length_eq_zero hq1
          rw [e1] at HRW
          replace HRW : Hid ((List.range (k + 1)).map (mkAt (pgs l cs P)) = (List.range k).map (mkAt (pgs l cs P)) ++ [⟨-1, p2.headD (-1), p2.getLastD (-1)⟩]) := HRW
          clear s1 e1 hq1
          rcases q2 with _ | n2
          · have e2 := List.eq_nil_of_length_eq_zero hq2
            rw [e2] at HRW
            replace HRW : Hid ((List.range (k + 1)).map (mkAt (pgs l cs P)) = (List.range k).map (mkAt (pgs l cs P)) ++ [⟨(-1), (-1), (-1)⟩]) := HRW
            clear s2 e2 hq2
            go_wp2_with (first
              | (refine rowAppend ?gd (.tmp 70) (.tmp 72) 27 ?ho Try.underlying27 infoM2 rfl (by decide) ((x6.alloc (.cells #[.int .i64 (-1), .int .i64 (-1), .int .i64 (-1)] 31)).alloc (.cells #[.int .i64 (-1), .int .i64 (-1), .int .i64 (-1)] 31)) ?hs (y := (⟨(-1), (-1), (-1)⟩ : Mk)) rfl ?h1 (Blk.new _ _ 31) ?hx ?hl ?hb ?hz ?_; (case gd => rfl); (case ho => rfl); (case hs => rfl); (case h1 => simp [encM, Value.oneCell']); (case hx => (rw [World.size_alloc]; rfl)); (case hl => have := HLN.out; unfold maxLen; omega); (case hb => have := HLN.out; omega); (case hz => exact ((kw6.alloc _).alloc _).size))
              | fail)
            intro v' w4 hr4 kp4 oth4 sz4 hne
            have k4 := kp4 (Nat.le_refl _) ((kw6.alloc _).alloc _)
            rw [← HRW.out] at hr4
            have hif2 := HIF2.out
            clear oth4 hne kp4
            go_wp2
            go_roundw
            case rel => exact ⟨k + 1, i + ml, HKN.out, by go_num, HNX.out.1, HNX.out.2.1, HNX.out.2.2, hr4, k4⟩
            case measure => simp [intOf]; omega
          · have a0 := head_at hq2 (-1)
            have al := last_at hq2 (-1)
            obtain ⟨f2, hf2⟩ : ∃ f, p2.headD (-1) = f := ⟨_, rfl⟩
            obtain ⟨l2, hl2⟩ : ∃ f, p2.getLastD (-1) = f := ⟨_, rfl⟩
            rw [hf2] at HRW a0
            rw [hl2] at HRW al
            rcases s2.2.2.2 with e | ⟨g2, o2, rfl, hg2, hrow2⟩
            · rw [e] at hq2; simp at hq2
            have u0 := hrow2 0 f2 a0 0 _ rfl
            have u1 := hrow2 n2 l2 al 0 _ rfl
            rw [Nat.zero_mul] at u0
            rw [Nat.mul_one] at u1
            simp only [Nat.add_zero] at u0 u1
            have ew3 : IntKind.i64.wrap (n2 : Int) = (n2 : Int) := by have := s2.2.1; have := s2.2.2.1; unfold maxLen at this; rw [IntKind.wrap_i64]; omega
            have en3 : (n2 : Int) < (n2 : Int) + 1 := by omega
            have hcc2 := s2.2.1
            clear s2 hrow2 a0 al hf2 hl2 hq2
            go_wp2_with (first
              | (refine rowAppend ?gd (.tmp 70) (.tmp 72) 27 ?ho Try.underlying27 infoM2 rfl (by decide) ((x6.alloc (.cells #[.int .i64 (-1), .int .i64 f2, .int .i64 l2] 31)).alloc (.cells #[.int .i64 (-1), .int .i64 f2, .int .i64 l2] 31)) ?hs (y := (⟨(-1), f2, l2⟩ : Mk)) rfl ?h1 (Blk.new _ _ 31) ?hx ?hl ?hb ?hz ?_; (case gd => rfl); (case ho => rfl); (case hs => rfl); (case h1 => simp [encM, Value.oneCell']); (case hx => (rw [World.size_alloc]; rfl)); (case hl => have := HLN.out; unfold maxLen; omega); (case hb => have := HLN.out; omega); (case hz => exact ((kw6.alloc _).alloc _).size))
              | fail)
            intro v' w4 hr4 kp4 oth4 sz4 hne
            have k4 := kp4 (Nat.le_refl _) ((kw6.alloc _).alloc _)
            rw [← HRW.out] at hr4
            have hif2 := HIF2.out
            clear oth4 hne kp4
            go_wp2
            go_roundw
            case rel => exact ⟨k + 1, i + ml, HKN.out, by go_num, HNX.out.1, HNX.out.2.1, HNX.out.2.2, hr4, k4⟩
            case measure => simp [intOf]; omega
        · have al := last_at hq1 (-1)
          obtain ⟨t1, ht1⟩ : ∃ t, p1.getLastD (-1) = t := ⟨_, rfl⟩
          rw [ht1] at HRW al
          rcases s1.2.2.2 with e | ⟨g1, o1, rfl, hg1, hrow1⟩
          · rw [e] at hq1; simp at hq1
          have d1 := hrow1 n1 t1 al 0 _ rfl
          rw [Nat.mul_one] at d1
          simp only [Nat.add_zero] at d1
          have ew4 : IntKind.i64.wrap (n1 : Int) = (n1 : Int) := by have := s1.2.1; have := s1.2.2.1; unfold maxLen at this; rw [IntKind.wrap_i64]; omega
          have en4 : (n1 : Int) < (n1 : Int) + 1 := by omega
          have hcc1 := s1.2.1
          clear s1 hrow1 al ht1 hq1
          rcases q2 with _ | n2
          · have e2 := List.eq_nil_of_length_eq_zero hq2
            rw [e2] at HRW
            replace HRW : Hid ((List.range (k + 1)).map (mkAt (pgs l cs P)) = (List.range k).map (mkAt (pgs l cs P)) ++ [⟨t1, t1, t1⟩]) := HRW
            clear s2 e2 hq2
            go_wp2_with (first
              | (refine rowAppend ?gd (.tmp 70) (.tmp 72) 27 ?ho Try.underlying27 infoM2 rfl (by decide) ((x6.alloc (.cells #[.int .i64 t1, .int .i64 t1, .int .i64 t1] 31)).alloc (.cells #[.int .i64 t1, .int .i64 t1, .int .i64 t1] 31)) ?hs (y := (⟨t1, t1, t1⟩ : Mk)) rfl ?h1 (Blk.new _ _ 31) ?hx ?hl ?hb ?hz ?_; (case gd => rfl); (case ho => rfl); (case hs => rfl); (case h1 => simp [encM, Value.oneCell']); (case hx => (rw [World.size_alloc]; rfl)); (case hl => have := HLN.out; unfold maxLen; omega); (case hb => have := HLN.out; omega); (case hz => exact ((kw6.alloc _).alloc _).size))
              | fail)
            intro v' w4 hr4 kp4 oth4 sz4 hne
            have k4 := kp4 (Nat.le_refl _) ((kw6.alloc _).alloc _)
            rw [← HRW.out] at hr4
            have hif2 := HIF2.out
            clear oth4 hne kp4
            go_wp2
            go_roundw
            case rel => exact ⟨k + 1, i + ml, HKN.out, by go_num, HNX.out.1, HNX.out.2.1, HNX.out.2.2, hr4, k4⟩
            case measure => simp [intOf]; omega
          · have a0 := head_at hq2 t1
            have al := last_at hq2 t1
            obtain ⟨f2, hf2⟩ : ∃ f, p2.headD t1 = f := ⟨_, rfl⟩
            obtain ⟨l2, hl2⟩ : ∃ f, p2.getLastD t1 = f := ⟨_, rfl⟩
            rw [hf2] at HRW a0
            rw [hl2] at HRW al
            rcases s2.2.2.2 with e | ⟨g2, o2, rfl, hg2, hrow2⟩
            · rw [e] at hq2; simp at hq2
            have u0 := hrow2 0 f2 a0 0 _ rfl
            have u1 := hrow2 n2 l2 al 0 _ rfl
            rw [Nat.zero_mul] at u0
            rw [Nat.mul_one] at u1
            simp only [Nat.add_zero] at u0 u1
            have ew3 : IntKind.i64.wrap (n2 : Int) = (n2 : Int) := by have := s2.2.1; have := s2.2.2.1; unfold maxLen at this; rw [IntKind.wrap_i64]; omega
            have en3 : (n2 : Int) < (n2 : Int) + 1 := by omega
            have hcc2 := s2.2.1
            clear s2 hrow2 a0 al hf2 hl2 hq2
            go_wp2_with (first
              | (refine rowAppend ?gd (.tmp 70) (.tmp 72) 27 ?ho Try.underlying27 infoM2 rfl (by decide) ((x6.alloc (.cells #[.int .i64 t1, .int .i64 f2, .int .i64 l2] 31)).alloc (.cells #[.int .i64 t1, .int .i64 f2, .int .i64 l2] 31)) ?hs (y := (⟨t1, f2, l2⟩ : Mk)) rfl ?h1 (Blk.new _ _ 31) ?hx ?hl ?hb ?hz ?_; (case gd => rfl); (case ho => rfl); (case hs => rfl); (case h1 => simp [encM, Value.oneCell']); (case hx => (rw [World.size_alloc]; rfl)); (case hl => have := HLN.out; unfold maxLen; omega); (case hb => have := HLN.out; omega); (case hz => exact ((kw6.alloc _).alloc _).size))
              | fail)
            intro v' w4 hr4 kp4 oth4 sz4 hne
            have k4 := kp4 (Nat.le_refl _) ((kw6.alloc _).alloc _)
            rw [← HRW.out] at hr4
            have hif2 := HIF2.out
            clear oth4 hne kp4
            go_wp2
            go_roundw
            case rel => exact ⟨k + 1, i + ml, HKN.out, by go_num, HNX.out.1, HNX.out.2.1, HNX.out.2.2, hr4, k4⟩
            case measure => simp [intOf]; omega
    · have hkN : k = nCh cs.length P := by
        rcases Nat.lt_or_ge k (nCh cs.length P) with h | h
        · have := hik h; have := (lt_nCh hP).1 h; omega
        · omega
      subst hkN
      have j2 : decide (i < cs.length) = false := decide_eq_false (by omega)
      have j3 : decide ((i : Int) < (cs.length : Int)) = false := decide_eq_false (by omega)
      go_wp2
      go_ret
      exact ⟨_, rfl, xr, xk⟩
end Go.Proofs.Ytiimbkiiffimiaa
