/- The law IndexTells: the index of any columns, the pages of any mark. -/
import Derived.Test.YtkgfnkfgmnijbaaDoorLaw9A

import Derived.Test.YtkgfnkfgmnijbaaDoorROf9

namespace Go.Proofs.YtkgfnkfgmnijbaaDoor

open Go.RowKit

set_option maxHeartbeats 1000000 in
theorem indexOf_no (a ca : Option Addr) (n cap cn ccap : Nat) (P : Int) (w : World) (hP : P < 1) :
    Calls Tryd.prog 13 #[.slice a n cap, .slice ca cn ccap, .int .i64 P] w fun e w' => e = .returned (.slice none 0 0) ∧ Kp w w' := by
  have j1 : decide (P < 1) = true := decide_eq_true hP
  go_enter Tryd.func13, Tryd.ntmps13
  go_wp2_with fail
  (try go_ret)
  exact ⟨rfl, (by (repeat (first | with_reducible assumption | with_reducible exact Kp.refl _ | with_reducible refine Kp.drew ?_ | with_reducible refine Kp.drewN ?_ _ | with_reducible refine Kp.alloc ?_ _ | ((with_reducible refine Kp.setCell ?_ ?_ _); rotate_left; (focus (first | omega | (simp; done) | (simp; omega)))) | with_reducible refine Kp.trans ?_ (by assumption))))⟩
set_option maxHeartbeats 1000000 in
theorem refOf_no (a ca : Option Addr) (n cap cn ccap : Nat) (P : Int) (w : World) (hP : P < 1) :
    Calls Tryd.prog 14 #[.slice a n cap, .slice ca cn ccap, .int .i64 P] w fun e w' => e = .returned (.slice none 0 0) ∧ Kp w w' := by
  have j1 : decide (P < 1) = true := decide_eq_true hP
  go_enter Tryd.func14, Tryd.ntmps14
  go_wp2_with fail
  (try go_ret)
  exact ⟨rfl, (by (repeat (first | with_reducible assumption | with_reducible exact Kp.refl _ | with_reducible refine Kp.drew ?_ | with_reducible refine Kp.drewN ?_ _ | with_reducible refine Kp.alloc ?_ _ | ((with_reducible refine Kp.setCell ?_ ?_ _); rotate_left; (focus (first | omega | (simp; done) | (simp; omega)))) | with_reducible refine Kp.trans ?_ (by assumption))))⟩
/-- What the index is, for any size of a page. -/
def IsIx (l : List Item) (cs : List Col) (P : Int) (L : List Ent) : Prop := if P < 1 then L = [] else IsIndex (grpF (pagesL l cs P.toNat)) L
theorem isIx_unique {l : List Item} {cs : List Col} {P : Int} {L L' : List Ent} (h : IsIx l cs P L) (h' : IsIx l cs P L') : keys L = keys L' := by
  unfold IsIx at h h'
  by_cases hP : P < 1
  · rw [if_pos hP] at h h'; rw [h, h']
  · rw [if_neg hP] at h h'
    obtain ⟨e1, e2⟩ := IsIndex.unique h h'
    exact keys_eq e1 e2
theorem rise_few : ∀ {L A : List Int}, L.Pairwise (· < ·) → (∀ x, x ∈ L → x ∈ A) → L.length ≤ A.length
  | [], A, _, _ => Nat.zero_le _
  | x :: L, A, h, hs => by
    have hx := hs x List.mem_cons_self
    have h1 := List.pairwise_cons.1 h
    have ih := rise_few (A := A.erase x) h1.2 (fun y hy => (List.mem_erase_of_ne (by have := h1.1 y hy; omega)).2 (hs y (List.mem_cons_of_mem _ hy)))
    rw [List.length_erase_of_mem hx] at ih
    have : 0 < A.length := List.length_pos_iff.2 (fun e => by rw [e] at hx; cases hx)
    rw [List.length_cons]
    omega
theorem isIx_few {l : List Item} {cs : List Col} {P : Int} {L : List Ent} (h4 : l.length ≤ 100) (h : IsIx l cs P L) : L.length ≤ 1000 := by
  unfold IsIx at h
  by_cases hP : P < 1
  · rw [if_pos hP] at h; rw [h]; exact Nat.zero_le _
  · rw [if_neg hP] at h
    have hh := rise_few (L := L.map (·.n)) (A := l.map (·.n)) (List.pairwise_map.2 h.rise) (fun n hn => by
      obtain ⟨x, hx, rfl⟩ := List.mem_map.1 hn
      have hf := (h.each x hx).2.1
      rw [grpF_ne, ← page_all l cs P.toNat (by omega)] at hf
      obtain ⟨y, hy, e⟩ := page_in hf
      exact List.mem_map.2 ⟨y, hy, e⟩)
    rw [List.length_map, List.length_map] at hh
    omega
theorem indexOf_any (a ca : Option Addr) (cap ccap : Nat) (l : List Item) (cs : List Col) (P : Int) (w : World) (hl : SlOk w 7 Item.cells a l.length cap l) (hc : SlOk w 6 Col.cells ca cs.length ccap cs) (h4 : l.length ≤ 100) (h6 : cs.length ≤ 60) (hi : ∀ x, x ∈ l → I64 x.n) (hP2 : P ≤ 9223372036854775807) :
    Calls Tryd.prog 13 #[.slice a l.length cap, .slice ca cs.length ccap, .int .i64 P] w fun e w' => ∃ ra rc L, e = .returned (.slice ra L.length rc) ∧ SlOk w' 2 Ent.cells ra L.length rc L ∧ (∀ y, y ∈ L → y.good w') ∧ IsIx l cs P L ∧ Kp w w' := by
  unfold IsIx
  by_cases hP : P < 1
  · refine (indexOf_no a ca _ cap _ ccap P w hP).mono ?_
    rintro e w' ⟨rfl, k⟩
    exact ⟨none, 0, [], rfl, ⟨rfl, Nat.le_refl _, by decide, .inl rfl⟩, fun y hy => (by cases hy), by rw [if_pos hP], k⟩
  · have e : P = ((P.toNat : Nat) : Int) := by omega
    have hh := indexOf_yes a ca cap ccap l cs P.toNat w hl hc h4 h6 hi (by omega) (by omega)
    rw [← e] at hh
    simp only [if_neg hP]
    exact hh
theorem refOf_any (a ca : Option Addr) (cap ccap : Nat) (l : List Item) (cs : List Col) (P : Int) (w : World) (hl : SlOk w 7 Item.cells a l.length cap l) (hc : SlOk w 6 Col.cells ca cs.length ccap cs) (h4 : l.length ≤ 100) (h6 : cs.length ≤ 60) (hi : ∀ x, x ∈ l → I64 x.n) (hP2 : P ≤ 9223372036854775807) :
    Calls Tryd.prog 14 #[.slice a l.length cap, .slice ca cs.length ccap, .int .i64 P] w fun e w' => ∃ ra rc L, e = .returned (.slice ra L.length rc) ∧ SlOk w' 2 Ent.cells ra L.length rc L ∧ (∀ y, y ∈ L → y.good w') ∧ IsIx l cs P L ∧ Kp w w' := by
  unfold IsIx
  by_cases hP : P < 1
  · refine (refOf_no a ca _ cap _ ccap P w hP).mono ?_
    rintro e w' ⟨rfl, k⟩
    exact ⟨none, 0, [], rfl, ⟨rfl, Nat.le_refl _, by decide, .inl rfl⟩, fun y hy => (by cases hy), by rw [if_pos hP], k⟩
  · have e : P = ((P.toNat : Nat) : Int) := by omega
    have hh := refOf_yes a ca cap ccap l cs P.toNat (min P.toNat (max 1 cs.length)) w hl hc h4 h6 hi (by omega) (by omega) rfl
    rw [← e] at hh
    simp only [if_neg hP]
    rw [pagesL_min l cs (by omega) rfl]
    exact hh
set_option maxRecDepth 100000 in
set_option maxHeartbeats 8000000 in
theorem indexTells_main (a ca : Option Addr) (cap ccap : Nat) (l : List Item) (cs : List Col) (P n : Int) (w : World) (he : Env w) (hl : SlOk w 7 Item.cells a l.length cap l) (hc : SlOk w 6 Col.cells ca cs.length ccap cs) (h4 : l.length ≤ 100) (h6 : cs.length ≤ 60) (hi : ∀ x, x ∈ l → I64 x.n) (hP2 : P ≤ 9223372036854775807) :
    Calls Tryd.prog 4 #[.slice a l.length cap, .slice ca cs.length ccap, .agg #[.int .i64 P, .int .i64 n]] w fun e w' => e = .returned (.bool true) ∧ Kp w w' := by
  have C1 : Hid (∀ w', Kp w w' → Calls Tryd.prog 13 #[.slice a l.length cap, .slice ca cs.length ccap, .int .i64 P] w' fun e w'' => ∃ ra rc L, e = .returned (.slice ra L.length rc) ∧ SlOk w'' 2 Ent.cells ra L.length rc L ∧ (∀ y, y ∈ L → y.good w'') ∧ IsIx l cs P L ∧ Kp w' w'') := Lib.hid fun w' k => indexOf_any a ca cap ccap l cs P w' (hl.kp k) (hc.kp k) h4 h6 hi hP2
  have C2 : Hid (∀ w', Kp w w' → Calls Tryd.prog 14 #[.slice a l.length cap, .slice ca cs.length ccap, .int .i64 P] w' fun e w'' => ∃ ra rc L, e = .returned (.slice ra L.length rc) ∧ SlOk w'' 2 Ent.cells ra L.length rc L ∧ (∀ y, y ∈ L → y.good w'') ∧ IsIx l cs P L ∧ Kp w' w'') := Lib.hid fun w' k => refOf_any a ca cap ccap l cs P w' (hl.kp k) (hc.kp k) h4 h6 hi hP2
  have HE := Lib.hid he
  have FEW : Hid (∀ L, IsIx l cs P L → L.length ≤ 1000) := Lib.hid fun L h => isIx_few h4 h
  have j1 : decide ((100 : Int) < (l.length : Int)) = false := decide_eq_false (by omega)
  have j2 : decide ((60 : Int) < (cs.length : Int)) = false := decide_eq_false (by omega)
  clear he hl hc hi
  go_enter Tryd.func4, Tryd.ntmps4
  go_wp2_with fail
  
  refine named_world (F := fun w1 => Blk w1 w.heap.size [.int .i64 P, .int .i64 n] 42 ∧ Kp w w1) ⟨(by (repeat (first | with_reducible assumption | ((with_reducible refine Blk.newL ?_ ?_); (focus (first | (simp; done) | omega)); rfl) | with_reducible refine Blk.drew ?_ | with_reducible refine Blk.drewN ?_ _ | with_reducible refine Blk.alloc ?_ _ | ((with_reducible refine Blk.other ?_ ?_ _); rotate_left; (focus (first | with_reducible assumption | omega | (simp; done) | (simp; omega))))))), (by (repeat (first | with_reducible assumption | with_reducible exact Kp.refl _ | with_reducible refine Kp.drew ?_ | with_reducible refine Kp.drewN ?_ _ | with_reducible refine Kp.alloc ?_ _ | ((with_reducible refine Kp.setCell ?_ ?_ _); rotate_left; (focus (first | omega | (simp; done) | (simp; omega)))) | with_reducible refine Kp.trans ?_ (by assumption))))⟩ ?_; rintro w1 ⟨bx, kw1⟩; have bx_0 := bx.cell 0 rfl; have bx_1 := bx.cell 1 rfl; have bx_ne := bx.lt; have bx_n1 := Nat.lt_add_one_of_lt bx_ne; have bx_n2 := Nat.lt_add_one_of_lt bx_n1
  (refine wp_region_held_drew (S := (fun w' => (∀ b o, b < w1.heap.size → w'.cell? ⟨b, o, none⟩ = w1.cell? ⟨b, o, none⟩) ∧ Kp w1 w')) (by kernel_rfl) ?_ (fun hHd => ?_); (focus ((try dsimp only); (first | with_reducible assumption | with_reducible exact held_start _ | with_reducible exact held_next (by assumption) (by assumption) | with_reducible exact held_alloc (by assumption) _ | with_reducible exact held_drew (by assumption) | ((with_reducible refine held_kp ?_); (repeat (first | with_reducible assumption | with_reducible exact Kp.refl _ | with_reducible refine Kp.drew ?_ | with_reducible refine Kp.drewN ?_ _ | with_reducible refine Kp.alloc ?_ _ | ((with_reducible refine Kp.setCell ?_ ?_ _); rotate_left; (focus (first | omega | (simp; done) | (simp; omega)))) | with_reducible refine Kp.trans ?_ (by assumption))))))))
  (refine takeH (i := 0) (oi := ?o1) (v := ?v1) ?h1 (by kernel_rfl) ?q1 (Or.inl ⟨?w1, ?y1⟩) (by assumption) ?r1; (case h1 => ((simp only [g1, g3]); rfl)); (case q1 => exact fun _ _ _ h => h); (case w1 => rfl); (case y1 => (intro w' hSw; (try dsimp only at hSw); go_simp; (try with_reducible rfl))); (try simp only [Act.put, s1, s2, s3]))
  (refine takeH (i := 1) (oi := ?o2) (v := ?v2) ?h2 (by kernel_rfl) ?q2 (Or.inl ⟨?w2, ?y2⟩) (by assumption) ?r2; (case h2 => ((simp only [g1, g2, g3]); rfl)); (case q2 => exact fun _ _ _ h => h); (case w2 => rfl); (case y2 => (intro w' hSw; (try dsimp only at hSw); go_simp; (try with_reducible rfl))); (try simp only [Act.put, s1, s2, s3]))
  (refine takeH (i := 2) (oi := ?o3) (v := ?v3) ?h3 (by kernel_rfl) ?q3 (Or.inl ⟨?w3, ?y3⟩) (by assumption) ?r3; (case h3 => ((simp only [g1, g2, g3]); rfl)); (case q3 => exact fun _ _ _ h => h); (case w3 => rfl); (case y3 => (intro w' hSw; (try dsimp only at hSw); go_simp; (try with_reducible rfl))); (try simp only [Act.put, s1, s2, s3]))
  (refine takeH (i := 3) (oi := ?o4) (v := ?v4) ?h4 (by kernel_rfl) ?q4 (Or.inl ⟨?w4, ?y4⟩) (by assumption) ?r4; (case h4 => ((simp only [g1, g2, g3]); rfl)); (case q4 => exact fun _ _ _ h => h); (case w4 => rfl); (case y4 => (intro w' hSw; (try dsimp only at hSw); go_simp; (try with_reducible rfl))); (try simp only [Act.put, s1, s2, s3]))
  (refine takeH (i := 5) (oi := ?o5) (v := ?v5) ?h5 (by kernel_rfl) ?q5 (Or.inl ⟨?w5, ?y5⟩) (by assumption) ?r5; (case h5 => ((simp only [g1, g2, g3]); rfl)); (case q5 => exact fun _ _ _ h => h); (case w5 => rfl); (case y5 => (intro w' hSw; (try dsimp only at hSw); go_simp; (try with_reducible rfl))); (try simp only [Act.put, s1, s2, s3]))
  (refine takeH (i := 6) (oi := ?o6) (v := ?v6) ?h6 (by kernel_rfl) ?q6 (Or.inl ⟨?w6, ?y6⟩) (by assumption) ?r6; (case h6 => ((simp only [g1, g2, g3]); rfl)); (case q6 => exact fun _ _ _ h => h); (case w6 => rfl); (case y6 => (intro w' hSw; (try dsimp only at hSw); go_simp; (try with_reducible rfl))); (try simp only [Act.put, s1, s2, s3]))
  (refine takeH (i := 7) (oi := ?o7) (v := ?v7) ?h7 (by kernel_rfl) ?q7 (Or.inl ⟨?w7, ?y7⟩) (by assumption) ?r7; (case h7 => ((simp only [g1, g2, g3]); rfl)); (case q7 => exact fun _ _ _ h => h); (case w7 => rfl); (case y7 => (intro w' hSw; (try dsimp only at hSw); go_simp; (try with_reducible rfl))); (try simp only [Act.put, s1, s2, s3]))
  (refine takeH (i := 8) (oi := ?o8) (v := ?v8) ?h8 (by kernel_rfl) ?q8 (Or.inl ⟨?w8, ?y8⟩) (by assumption) ?r8; (case h8 => ((simp only [g1, g2, g3]); rfl)); (case q8 => exact fun _ _ _ h => h); (case w8 => rfl); (case y8 => (intro w' hSw; (try dsimp only at hSw); go_simp; (try with_reducible rfl))); (try simp only [Act.put, s1, s2, s3]))
  (refine wpAnyH_ready (rs := [4]) (by kernel_rfl) (by simp) ?_; refine AllReadyH.cons (o := ?o9) ?h9 (fun K hK => ?s9) AllReadyH.nil; (case h9 => (first | ((simp only [g1, g2, g3]); rfl) | rfl)); (go_simp; go_at_call 13; refine (C1.out _ (kw1.trans hHd.2)).mono ?_; rintro e w3 ⟨ra, rc, L, rfl, hs, hg, hx, kk⟩; (try dsimp only)); refine hK.out _ _ ?_ (fun hHd => ?_); (focus ((try dsimp only); exact held_kp (hHd.2.trans kk))); clear hK K; (try simp only [Act.put]))
  (refine wpAnyH_ready (rs := [9]) (by kernel_rfl) (by simp) ?_; refine AllReadyH.cons (o := ?o11) ?h11 (fun K hK => ?s11) AllReadyH.nil; (case h11 => (first | ((simp only [g1, g2, g3]); rfl) | rfl)); (go_simp; go_at_call 14; refine (C2.out _ (kw1.trans hHd.2)).mono ?_; rintro e w4 ⟨rb, rd, L2, rfl, ht, hg2, hx2, kk2⟩; (try dsimp only)); refine hK.out _ _ ?_ (fun hHd => ?_); (focus ((try dsimp only); exact held_kp (hHd.2.trans kk2))); clear hK K; (try simp only [Act.put]))
  (refine takeH (i := 10) (oi := ?o13) (v := ?v13) ?h13 (by kernel_rfl) ?q13 (Or.inl ⟨?w13, ?y13⟩) (by assumption) ?r13; (case h13 => ((simp only [g1, g2, g3]); rfl)); (case q13 => exact fun _ _ _ h => h); (case w13 => rfl); (case y13 => (intro w' hSw; (try dsimp only at hSw); go_simp; (try with_reducible rfl))); (try simp only [Act.put, s1, s2, s3]))
  (refine takeH (i := 11) (oi := ?o14) (v := ?v14) ?h14 (by kernel_rfl) ?q14 (Or.inl ⟨?w14, ?y14⟩) (by assumption) ?r14; (case h14 => ((simp only [g1, g2, g3]); rfl)); (case q14 => exact fun _ _ _ h => h); (case w14 => rfl); (case y14 => (intro w' hSw; (try dsimp only at hSw); go_simp; (try with_reducible rfl))); (try simp only [Act.put, s1, s2, s3]))
  refine wpAnyH_done (by kernel_rfl) ?_ _
  have hs4 := hs.kp kk2
  have HG1 := Lib.hid (fun y hy => (hg y hy).kp kk2)
  have HG2 := Lib.hid hg2
  have hkey := isIx_unique hx hx2
  have hfew := FEW.out L hx
  have hlen : L2.length = L.length := by
    have := congrArg List.length hkey
    unfold keys at this
    rw [List.length_map, List.length_map] at this
    exact this.symm
  have kw4 : Kp w w4 := kw1.trans hHd.2
  have bx4 := bx.kp hHd.2
  have HK := Lib.hid hkey
  rw [hlen] at ht ⊢
  have m1 := hs4.2.1
  have m2 := ht.2.1
  have m3 := hs4.2.2.1
  have m4 := ht.2.2.1
  unfold maxLen at m3 m4
  have HS := Lib.hid hs4
  have HT := Lib.hid ht
  have HLN := Lib.hid hlen
  clear hs hg hx hg2 hx2 kk kk2 hkey hs4 ht C1 C2 FEW hHd hlen bx kw1
  go_wp2_with fail
  go_loopw [9] (fun v9 wr => ∃ k : Nat, k ≤ L.length ∧ v9 = .int .i64 (k : Int) ∧ Kp w4 wr) (fun v9 _ => L.length - (intOf v9).toNat)
  case atStart => exact ⟨0, Nat.zero_le _, rfl, (by (repeat (first | with_reducible assumption | with_reducible exact Kp.refl _ | with_reducible refine Kp.drew ?_ | with_reducible refine Kp.drewN ?_ _ | with_reducible refine Kp.alloc ?_ _ | ((with_reducible refine Kp.setCell ?_ ?_ _); rotate_left; (focus (first | omega | (simp; done) | (simp; omega)))) | with_reducible refine Kp.trans ?_ (by assumption))))⟩
  case round =>
    obtain ⟨k, hk, rfl, xk⟩ := hrel
    by_cases hlt : k < L.length
    · obtain ⟨x, hx⟩ : ∃ x, L[k]? = some x := ⟨L[k], List.getElem?_eq_getElem hlt⟩
      obtain ⟨y, hy⟩ : ∃ y, L2[k]? = some y := ⟨L2[k]'(by rw [HLN.out]; exact hlt), List.getElem?_eq_getElem _⟩
      obtain ⟨q1, q2⟩ := keys_at HK.out hx hy
      have gx := (HG1.out x (List.mem_of_getElem? hx)).kp xk
      have gy := (HG2.out y (List.mem_of_getElem? hy)).kp xk
      obtain ⟨g4, o4, rfl, hg4, r4⟩ := entsOfSl HS.out (by omega)
      obtain ⟨g5, o5, rfl, hg5, r5⟩ := entsOfSl HT.out (by omega)
      have hg4' := Nat.lt_of_lt_of_le hg4 xk.size
      have hg5' := Nat.lt_of_lt_of_le hg5 xk.size
      obtain ⟨xn, ⟨xa, xl, xc, xs⟩⟩ := x
      obtain ⟨yn, ⟨ya, yl, yc, ys⟩⟩ := y
      obtain rfl : xn = yn := q1
      obtain rfl : xs = ys := q2
      obtain rfl : xl = xs.length := gx.len
      obtain rfl : yl = xs.length := gy.len
      have CI := Lib.hid (fun w' (k : Kp wr w') => ints_yes xa ya xc yc xs w' (gx.s.kp k) (gy.s.kp k))
      have d0 := (r4.kp xk hg4) k _ hx 0 _ rfl
      have d1 := (r4.kp xk hg4) k _ hx 1 _ rfl
      have f0 := (r5.kp xk hg5) k _ hy 0 _ rfl
      have f1 := (r5.kp xk hg5) k _ hy 1 _ rfl
      simp only [Nat.add_zero] at d0 f0
      have ji : decide ((k : Int) < (L.length : Int)) = true := decide_eq_true (by omega)
      clear r4 r5 hx hy gx gy bx4
      go_wp2_with fail
      (refine wp_region_held_drew (S := (fun w' => (∀ b o, b < wr.heap.size → w'.cell? ⟨b, o, none⟩ = wr.cell? ⟨b, o, none⟩) ∧ Kp wr w')) (by kernel_rfl) ?_ (fun hHd => ?_); (focus ((try dsimp only); (first | with_reducible assumption | with_reducible exact held_start _ | with_reducible exact held_next (by assumption) (by assumption) | with_reducible exact held_alloc (by assumption) _ | with_reducible exact held_drew (by assumption) | ((with_reducible refine held_kp ?_); (repeat (first | with_reducible assumption | with_reducible exact Kp.refl _ | with_reducible refine Kp.drew ?_ | with_reducible refine Kp.drewN ?_ _ | with_reducible refine Kp.alloc ?_ _ | ((with_reducible refine Kp.setCell ?_ ?_ _); rotate_left; (focus (first | omega | (simp; done) | (simp; omega)))) | with_reducible refine Kp.trans ?_ (by assumption))))))))
      (refine takeH (i := 0) (oi := ?o15) (v := ?v15) ?h15 (by kernel_rfl) ?q15 (Or.inl ⟨?w15, ?y15⟩) (by assumption) ?r15; (case h15 => ((simp only [g1, g3]); rfl)); (case q15 => exact fun _ _ _ h => h); (case w15 => rfl); (case y15 => (intro w' hSw; (try dsimp only at hSw); go_simp; (try with_reducible rfl))); (try simp only [Act.put, s1, s2, s3]))
      (refine takeH (i := 1) (oi := ?o16) (v := ?v16) ?h16 (by kernel_rfl) ?q16 (Or.inl ⟨?w16, ?y16⟩) (by assumption) ?r16; (case h16 => ((simp only [g1, g2, g3]); rfl)); (case q16 => exact fun _ _ _ h => h); (case w16 => rfl); (case y16 => (intro w' hSw; (try dsimp only at hSw); go_simp; (try with_reducible rfl))); (try simp only [Act.put, s1, s2, s3]))
      (refine takeH (i := 2) (oi := ?o17) (v := ?v17) ?h17 (by kernel_rfl) ?q17 (Or.inl ⟨?w17, ?y17⟩) (by assumption) ?r17; (case h17 => ((simp only [g1, g2, g3]); rfl)); (case q17 => exact fun _ _ _ h => h); (case w17 => rfl); (case y17 => (intro w' hSw; (try dsimp only at hSw); go_simp; (try with_reducible rfl))); (try simp only [Act.put, s1, s2, s3]))
      (refine takeH (i := 3) (oi := ?o18) (v := ?v18) ?h18 (by kernel_rfl) ?q18 (Or.inl ⟨?w18, ?y18⟩) (by assumption) ?r18; (case h18 => ((simp only [g1, g2, g3]); rfl)); (case q18 => exact fun _ _ _ h => h); (case w18 => rfl); (case y18 => (intro w' hSw; (try dsimp only at hSw); go_simp; (try with_reducible rfl))); (try simp only [Act.put, s1, s2, s3]))
      (refine takeH (i := 4) (oi := ?o19) (v := ?v19) ?h19 (by kernel_rfl) ?q19 (Or.inl ⟨?w19, ?y19⟩) (by assumption) ?r19; (case h19 => ((simp only [g1, g2, g3]); rfl)); (case q19 => exact fun _ _ _ h => h); (case w19 => rfl); (case y19 => (intro w' hSw; (try dsimp only at hSw); go_simp; (try with_reducible rfl))); (try simp only [Act.put, s1, s2, s3]))
      (refine takeH (i := 5) (oi := ?o20) (v := ?v20) ?h20 (by kernel_rfl) ?q20 (Or.inl ⟨?w20, ?y20⟩) (by assumption) ?r20; (case h20 => ((simp only [g1, g2, g3]); rfl)); (case q20 => exact fun _ _ _ h => h); (case w20 => rfl); (case y20 => (intro w' hSw; (try dsimp only at hSw); go_simp; (try with_reducible rfl))); (try simp only [Act.put, s1, s2, s3]))
      (refine takeH (i := 6) (oi := ?o21) (v := ?v21) ?h21 (by kernel_rfl) ?q21 (Or.inl ⟨?w21, ?y21⟩) (by assumption) ?r21; (case h21 => ((simp only [g1, g2, g3]); rfl)); (case q21 => exact fun _ _ _ h => h); (case w21 => rfl); (case y21 => (intro w' hSw; (try dsimp only at hSw); go_simp; (try with_reducible rfl))); (try simp only [Act.put, s1, s2, s3]))
      (refine takeH (i := 7) (oi := ?o22) (v := ?v22) ?h22 (by kernel_rfl) ?q22 (Or.inl ⟨?w22, ?y22⟩) (by assumption) ?r22; (case h22 => ((simp only [g1, g2, g3]); rfl)); (case q22 => exact fun _ _ _ h => h); (case w22 => rfl); (case y22 => (intro w' hSw; (try dsimp only at hSw); go_simp; (try with_reducible rfl))); (try simp only [Act.put, s1, s2, s3]))
      (refine takeH (i := 8) (oi := ?o23) (v := ?v23) ?h23 (by kernel_rfl) ?q23 (Or.inl ⟨?w23, ?y23⟩) (by assumption) ?r23; (case h23 => ((simp only [g1, g2, g3]); rfl)); (case q23 => exact fun _ _ _ h => h); (case w23 => rfl); (case y23 => (intro w' hSw; (try dsimp only at hSw); go_simp; (try with_reducible rfl))); (try simp only [Act.put, s1, s2, s3]))
      (refine takeH (i := 9) (oi := ?o24) (v := ?v24) ?h24 (by kernel_rfl) ?q24 (Or.inl ⟨?w24, ?y24⟩) (by assumption) ?r24; (case h24 => ((simp only [g1, g2, g3]); rfl)); (case q24 => exact fun _ _ _ h => h); (case w24 => rfl); (case y24 => (intro w' hSw; (try dsimp only at hSw); go_simp; (try with_reducible rfl))); (try simp only [Act.put, s1, s2, s3]))
      (refine takeH (i := 10) (oi := ?o25) (v := ?v25) ?h25 (by kernel_rfl) ?q25 (Or.inl ⟨?w25, ?y25⟩) (by assumption) ?r25; (case h25 => ((simp only [g1, g2, g3]); rfl)); (case q25 => exact fun _ _ _ h => h); (case w25 => rfl); (case y25 => (intro w' hSw; (try dsimp only at hSw); go_simp; (try with_reducible rfl))); (try simp only [Act.put, s1, s2, s3]))
      (refine takeH (i := 11) (oi := ?o26) (v := ?v26) ?h26 (by kernel_rfl) ?q26 (Or.inl ⟨?w26, ?y26⟩) (by assumption) ?r26; (case h26 => ((simp only [g1, g2, g3]); rfl)); (case q26 => exact fun _ _ _ h => h); (case w26 => rfl); (case y26 => (intro w' hSw; (try dsimp only at hSw); go_simp; (try with_reducible rfl))); (try simp only [Act.put, s1, s2, s3]))
      (refine takeH (i := 12) (oi := ?o27) (v := ?v27) ?h27 (by kernel_rfl) ?q27 (Or.inl ⟨?w27, ?y27⟩) (by assumption) ?r27; (case h27 => ((simp only [g1, g2, g3]); rfl)); (case q27 => exact fun _ _ _ h => h); (case w27 => rfl); (case y27 => (intro w' hSw; (try dsimp only at hSw); go_simp; (try with_reducible rfl))); (try simp only [Act.put, s1, s2, s3]))
      (refine takeH (i := 13) (oi := ?o28) (v := ?v28) ?h28 (by kernel_rfl) ?q28 (Or.inl ⟨?w28, ?y28⟩) (by assumption) ?r28; (case h28 => ((simp only [g1, g2, g3]); rfl)); (case q28 => exact fun _ _ _ h => h); (case w28 => rfl); (case y28 => (intro w' hSw; (try dsimp only at hSw); go_simp; (try with_reducible rfl))); (try simp only [Act.put, s1, s2, s3]))
      (refine takeH (i := 14) (oi := ?o29) (v := ?v29) ?h29 (by kernel_rfl) ?q29 (Or.inl ⟨?w29, ?y29⟩) (by assumption) ?r29; (case h29 => ((simp only [g1, g2, g3]); rfl)); (case q29 => exact fun _ _ _ h => h); (case w29 => rfl); (case y29 => (intro w' hSw; (try dsimp only at hSw); go_simp; (try with_reducible rfl))); (try simp only [Act.put, s1, s2, s3]))
      (refine takeH (i := 15) (oi := ?o30) (v := ?v30) ?h30 (by kernel_rfl) ?q30 (Or.inl ⟨?w30, ?y30⟩) (by assumption) ?r30; (case h30 => ((simp only [g1, g2, g3]); rfl)); (case q30 => exact fun _ _ _ h => h); (case w30 => rfl); (case y30 => (intro w' hSw; (try dsimp only at hSw); go_simp; (try with_reducible rfl))); (try simp only [Act.put, s1, s2, s3]))
      (refine takeH (i := 16) (oi := ?o31) (v := ?v31) ?h31 (by kernel_rfl) ?q31 (Or.inl ⟨?w31, ?y31⟩) (by assumption) ?r31; (case h31 => ((simp only [g1, g2, g3]); rfl)); (case q31 => exact fun _ _ _ h => h); (case w31 => rfl); (case y31 => (intro w' hSw; (try dsimp only at hSw); go_simp; (try with_reducible rfl))); (try simp only [Act.put, s1, s2, s3]))
      (refine takeH (i := 17) (oi := ?o32) (v := ?v32) ?h32 (by kernel_rfl) ?q32 (Or.inl ⟨?w32, ?y32⟩) (by assumption) ?r32; (case h32 => ((simp only [g1, g2, g3]); rfl)); (case q32 => exact fun _ _ _ h => h); (case w32 => rfl); (case y32 => (intro w' hSw; (try dsimp only at hSw); go_simp; (try with_reducible rfl))); (try simp only [Act.put, s1, s2, s3]))
      (refine takeH (i := 18) (oi := ?o33) (v := ?v33) ?h33 (by kernel_rfl) ?q33 (Or.inl ⟨?w33, ?y33⟩) (by assumption) ?r33; (case h33 => ((simp only [g1, g2, g3]); rfl)); (case q33 => exact fun _ _ _ h => h); (case w33 => rfl); (case y33 => (intro w' hSw; (try dsimp only at hSw); go_simp; (try with_reducible rfl))); (try simp only [Act.put, s1, s2, s3]))
      (refine takeH (i := 19) (oi := ?o34) (v := ?v34) ?h34 (by kernel_rfl) ?q34 (Or.inl ⟨?w34, ?y34⟩) (by assumption) ?r34; (case h34 => ((simp only [g1, g2, g3]); rfl)); (case q34 => exact fun _ _ _ h => h); (case w34 => rfl); (case y34 => (intro w' hSw; (try dsimp only at hSw); go_simp; (try with_reducible rfl))); (try simp only [Act.put, s1, s2, s3]))
      (refine takeH (i := 20) (oi := ?o35) (v := ?v35) ?h35 (by kernel_rfl) ?q35 (Or.inl ⟨?w35, ?y35⟩) (by assumption) ?r35; (case h35 => ((simp only [g1, g2, g3]); rfl)); (case q35 => exact fun _ _ _ h => h); (case w35 => rfl); (case y35 => (intro w' hSw; (try dsimp only at hSw); go_simp; (try with_reducible rfl))); (try simp only [Act.put, s1, s2, s3]))
      (refine takeH (i := 21) (oi := ?o36) (v := ?v36) ?h36 (by kernel_rfl) ?q36 (Or.inl ⟨?w36, ?y36⟩) (by assumption) ?r36; (case h36 => ((simp only [g1, g2, g3]); rfl)); (case q36 => exact fun _ _ _ h => h); (case w36 => rfl); (case y36 => (intro w' hSw; (try dsimp only at hSw); go_simp; (try with_reducible rfl))); (try simp only [Act.put, s1, s2, s3]))
      (refine takeH (i := 22) (oi := ?o37) (v := ?v37) ?h37 (by kernel_rfl) ?q37 (Or.inl ⟨?w37, ?y37⟩) (by assumption) ?r37; (case h37 => ((simp only [g1, g2, g3]); rfl)); (case q37 => exact fun _ _ _ h => h); (case w37 => rfl); (case y37 => (intro w' hSw; (try dsimp only at hSw); go_simp; (try with_reducible rfl))); (try simp only [Act.put, s1, s2, s3]))
      (refine takeH (i := 23) (oi := ?o38) (v := ?v38) ?h38 (by kernel_rfl) ?q38 (Or.inl ⟨?w38, ?y38⟩) (by assumption) ?r38; (case h38 => ((simp only [g1, g2, g3]); rfl)); (case q38 => exact fun _ _ _ h => h); (case w38 => rfl); (case y38 => (intro w' hSw; (try dsimp only at hSw); go_simp; (try with_reducible rfl))); (try simp only [Act.put, s1, s2, s3]))
      (refine takeH (i := 24) (oi := ?o39) (v := ?v39) ?h39 (by kernel_rfl) ?q39 (Or.inl ⟨?w39, ?y39⟩) (by assumption) ?r39; (case h39 => ((simp only [g1, g2, g3]); rfl)); (case q39 => exact fun _ _ _ h => h); (case w39 => rfl); (case y39 => (intro w' hSw; (try dsimp only at hSw); go_simp; (try with_reducible rfl))); (try simp only [Act.put, s1, s2, s3]))
      (refine takeH (i := 25) (oi := ?o40) (v := ?v40) ?h40 (by kernel_rfl) ?q40 (Or.inl ⟨?w40, ?y40⟩) (by assumption) ?r40; (case h40 => ((simp only [g1, g2, g3]); rfl)); (case q40 => exact fun _ _ _ h => h); (case w40 => rfl); (case y40 => (intro w' hSw; (try dsimp only at hSw); go_simp; (try with_reducible rfl))); (try simp only [Act.put, s1, s2, s3]))
      (refine takeH (i := 26) (oi := ?o41) (v := ?v41) ?h41 (by kernel_rfl) ?q41 (Or.inl ⟨?w41, ?y41⟩) (by assumption) ?r41; (case h41 => ((simp only [g1, g2, g3]); rfl)); (case q41 => exact fun _ _ _ h => h); (case w41 => rfl); (case y41 => (intro w' hSw; (try dsimp only at hSw); go_simp; (try with_reducible rfl))); (try simp only [Act.put, s1, s2, s3]))
      (refine takeH (i := 27) (oi := ?o42) (v := ?v42) ?h42 (by kernel_rfl) ?q42 (Or.inl ⟨?w42, ?y42⟩) (by assumption) ?r42; (case h42 => ((simp only [g1, g2, g3]); rfl)); (case q42 => exact fun _ _ _ h => h); (case w42 => rfl); (case y42 => (intro w' hSw; (try dsimp only at hSw); go_simp; (try with_reducible rfl))); (try simp only [Act.put, s1, s2, s3]))
      (refine takeH (i := 28) (oi := ?o43) (v := ?v43) ?h43 (by kernel_rfl) ?q43 (Or.inl ⟨?w43, ?y43⟩) (by assumption) ?r43; (case h43 => ((simp only [g1, g2, g3]); rfl)); (case q43 => exact fun _ _ _ h => h); (case w43 => rfl); (case y43 => (intro w' hSw; (try dsimp only at hSw); go_simp; (try with_reducible rfl))); (try simp only [Act.put, s1, s2, s3]))
      (refine wpAnyH_ready (rs := [29]) (by kernel_rfl) (by simp) ?_; refine AllReadyH.cons (o := ?o44) ?h44 (fun K hK => ?s44) AllReadyH.nil; (case h44 => (first | ((simp only [g1, g2, g3]); rfl) | rfl)); (go_simp; go_at_call 15; refine (CI.out _ hHd.2).mono ?_; rintro e w7 ⟨rfl, kk3⟩; (try dsimp only)); refine hK.out _ _ ?_ (fun hHd => ?_); (focus ((try dsimp only); exact held_kp (hHd.2.trans kk3))); clear hK K; (try simp only [Act.put]))
      (refine takeH (i := 30) (oi := ?o46) (v := ?v46) ?h46 (by kernel_rfl) ?q46 (Or.inl ⟨?w46, ?y46⟩) (by assumption) ?r46; (case h46 => ((simp only [g1, g2, g3]); rfl)); (case q46 => exact fun _ _ _ h => h); (case w46 => rfl); (case y46 => (intro w' hSw; (try dsimp only at hSw); go_simp; (try with_reducible rfl))); (try simp only [Act.put, s1, s2, s3]))
      (refine takeH (i := 31) (oi := ?o47) (v := ?v47) ?h47 (by kernel_rfl) ?q47 (Or.inl ⟨?w47, ?y47⟩) (by assumption) ?r47; (case h47 => ((simp only [g1, g2, g3]); rfl)); (case q47 => exact fun _ _ _ h => h); (case w47 => rfl); (case y47 => (intro w' hSw; (try dsimp only at hSw); go_simp; (try with_reducible rfl))); (try simp only [Act.put, s1, s2, s3]))
      refine wpAnyH_done (by kernel_rfl) ?_ _
      go_wp2_with fail
      go_roundw
      case rel => exact ⟨k + 1, by omega, by go_num, xk.trans hHd.2⟩
      case measure => simp [intOf]; omega
    · obtain rfl : k = L.length := by omega
      have ji : decide ((L.length : Int) < (L.length : Int)) = false := decide_eq_false (by omega)
      obtain ⟨T, hT⟩ : ∃ T, textL L = T := ⟨_, rfl⟩
      have hT2 : textL L2 = T := by rw [textL_keys, ← HK.out, ← textL_keys, hT]
      obtain ⟨G, hG⟩ : ∃ G, pagesOf L n = G := ⟨_, rfl⟩
      have hG2 : pagesOf L2 n = G := by rw [pagesOf_keys, ← HK.out, ← pagesOf_keys, hG]
      have kwr : Kp w wr := kw4.trans xk
      have CF1 : Hid (∀ w', Kp w4 w' → Calls Tryd.prog 16 #[.slice ra L.length rc, .int .i64 n] w' fun e w'' => (∃ ra rc, e = .returned (.slice ra G.length rc) ∧ SlOk w'' 1 enc1 ra G.length rc G) ∧ Kp w' w'') := Lib.hid fun w' k => by
        have hh := find_any ra rc L n w' (HS.out.kp k) (fun y hy => (HG1.out y hy).kp k)
        rw [hG] at hh; exact hh
      have CF2 : Hid (∀ w', Kp w4 w' → Calls Tryd.prog 17 #[.slice rb L.length rd, .int .i64 n] w' fun e w'' => (∃ ra rc, e = .returned (.slice ra G.length rc) ∧ SlOk w'' 1 enc1 ra G.length rc G) ∧ Kp w' w'') := Lib.hid fun w' k => by
        have ht := HT.out.kp k
        rw [← HLN.out] at ht ⊢
        have hh := refFind_any rb rd L2 n w' ht (fun y hy => (HG2.out y hy).kp k)
        rw [hG2] at hh; exact hh
      have CT1 : Hid (∀ w', Kp w4 w' → Calls Tryd.prog 10 #[.slice ra L.length rc] w' fun e w'' => e = .returned (sv T) ∧ Kp w' w'') := Lib.hid fun w' k => by
        have hh := text_any ra rc L w' (HE.out.kp (kw4.trans k)) (HS.out.kp k) (fun y hy => (HG1.out y hy).kp k) hfew
        rw [hT] at hh; exact hh
      have CT2 : Hid (∀ w', Kp w4 w' → Calls Tryd.prog 11 #[.slice rb L.length rd] w' fun e w'' => e = .returned (sv T) ∧ Kp w' w'') := Lib.hid fun w' k => by
        have ht := HT.out.kp k
        rw [← HLN.out] at ht ⊢
        have hh := refText_any rb rd L2 w' ht (fun y hy => (HG2.out y hy).kp k) (by rw [HLN.out]; exact hfew)
        rw [hT2] at hh; exact hh
      have CAW : Hid (∀ w', Kp w4 w' → Calls Tryd.prog 6 #[] w' fun e w'' => e = .returned (.bool true) ∧ Kp w' w'') := Lib.hid fun w' k => awake9_any w' (HE.out.kp (kw4.trans k))
      have bx5 := bx4.kp xk
      have bx5_0 := bx5.cell 0 rfl
      have bx5_1 := bx5.cell 1 rfl
      have hbx := bx5.lt
      clear hT hT2 hG hG2 hlt hk hfew
      go_wp2_with fail
      (refine wp_region_held_drew (S := (fun w' => (∀ b o, b < wr.heap.size → w'.cell? ⟨b, o, none⟩ = wr.cell? ⟨b, o, none⟩) ∧ Kp wr w')) (by kernel_rfl) ?_ (fun hHd => ?_); (focus ((try dsimp only); (first | with_reducible assumption | with_reducible exact held_start _ | with_reducible exact held_next (by assumption) (by assumption) | with_reducible exact held_alloc (by assumption) _ | with_reducible exact held_drew (by assumption) | ((with_reducible refine held_kp ?_); (repeat (first | with_reducible assumption | with_reducible exact Kp.refl _ | with_reducible refine Kp.drew ?_ | with_reducible refine Kp.drewN ?_ _ | with_reducible refine Kp.alloc ?_ _ | ((with_reducible refine Kp.setCell ?_ ?_ _); rotate_left; (focus (first | omega | (simp; done) | (simp; omega)))) | with_reducible refine Kp.trans ?_ (by assumption))))))))
      (refine takeH (i := 0) (oi := ?o48) (v := ?v48) ?h48 (by kernel_rfl) ?q48 (Or.inl ⟨?w48, ?y48⟩) (by assumption) ?r48; (case h48 => ((simp only [g1, g3]); rfl)); (case q48 => exact fun _ _ _ h => h); (case w48 => rfl); (case y48 => (intro w' hSw; (try dsimp only at hSw); go_simp; (try with_reducible rfl))); (try simp only [Act.put, s1, s2, s3]))
      (refine takeH (i := 1) (oi := ?o49) (v := ?v49) ?h49 (by kernel_rfl) ?q49 (Or.inl ⟨?w49, ?y49⟩) (by assumption) ?r49; (case h49 => ((simp only [g1, g2, g3]); rfl)); (case q49 => exact fun _ _ _ h => h); (case w49 => rfl); (case y49 => (intro w' hSw; (try dsimp only at hSw); go_simp; (try with_reducible rfl))); (try simp only [Act.put, s1, s2, s3]))
      (refine takeH (i := 2) (oi := ?o50) (v := ?v50) ?h50 (by kernel_rfl) ?q50 (Or.inl ⟨?w50, ?y50⟩) (by assumption) ?r50; (case h50 => ((simp only [g1, g2, g3]); rfl)); (case q50 => exact fun _ _ _ h => h); (case w50 => rfl); (case y50 => (intro w' hSw; (try dsimp only at hSw); go_simp; (try with_reducible rfl))); (try simp only [Act.put, s1, s2, s3]))
      (refine takeH (i := 3) (oi := ?o51) (v := ?v51) ?h51 (by kernel_rfl) ?q51 (Or.inl ⟨?w51, ?y51⟩) (by assumption) ?r51; (case h51 => ((simp only [g1, g2, g3]); rfl)); (case q51 => exact fun _ _ _ h => h); (case w51 => rfl); (case y51 => (intro w' hSw; (try dsimp only at hSw); go_simp; (try with_reducible rfl))); (try simp only [Act.put, s1, s2, s3]))
      (refine takeH (i := 4) (oi := ?o52) (v := ?v52) ?h52 (by kernel_rfl) ?q52 (Or.inl ⟨?w52, ?y52⟩) (by assumption) ?r52; (case h52 => ((simp only [g1, g2, g3]); rfl)); (case q52 => exact fun _ _ _ h => h); (case w52 => rfl); (case y52 => (intro w' hSw; (try dsimp only at hSw); go_simp; (try with_reducible rfl))); (try simp only [Act.put, s1, s2, s3]))
      (refine takeH (i := 5) (oi := ?o53) (v := ?v53) ?h53 (by kernel_rfl) ?q53 (Or.inl ⟨?w53, ?y53⟩) (by assumption) ?r53; (case h53 => ((simp only [g1, g2, g3]); rfl)); (case q53 => exact fun _ _ _ h => h); (case w53 => rfl); (case y53 => (intro w' hSw; (try dsimp only at hSw); go_simp; (try with_reducible rfl))); (try simp only [Act.put, s1, s2, s3]))
      (refine takeH (i := 6) (oi := ?o54) (v := ?v54) ?h54 (by kernel_rfl) ?q54 (Or.inl ⟨?w54, ?y54⟩) (by assumption) ?r54; (case h54 => ((simp only [g1, g2, g3]); rfl)); (case q54 => exact fun _ _ _ h => h); (case w54 => rfl); (case y54 => (intro w' hSw; (try dsimp only at hSw); go_simp; (try with_reducible rfl))); (try simp only [Act.put, s1, s2, s3]))
      (refine takeH (i := 7) (oi := ?o55) (v := ?v55) ?h55 (by kernel_rfl) ?q55 (Or.inl ⟨?w55, ?y55⟩) (by assumption) ?r55; (case h55 => ((simp only [g1, g2, g3]); rfl)); (case q55 => exact fun _ _ _ h => h); (case w55 => rfl); (case y55 => (intro w' hSw; (try dsimp only at hSw); go_simp; (try with_reducible rfl))); (try simp only [Act.put, s1, s2, s3]))
      (refine takeH (i := 8) (oi := ?o56) (v := ?v56) ?h56 (by kernel_rfl) ?q56 (Or.inl ⟨?w56, ?y56⟩) (by assumption) ?r56; (case h56 => ((simp only [g1, g2, g3]); rfl)); (case q56 => exact fun _ _ _ h => h); (case w56 => rfl); (case y56 => (intro w' hSw; (try dsimp only at hSw); go_simp; (try with_reducible rfl))); (try simp only [Act.put, s1, s2, s3]))
      (refine takeH (i := 10) (oi := ?o57) (v := ?v57) ?h57 (by kernel_rfl) ?q57 (Or.inl ⟨?w57, ?y57⟩) (by assumption) ?r57; (case h57 => ((simp only [g1, g2, g3]); rfl)); (case q57 => exact fun _ _ _ h => h); (case w57 => rfl); (case y57 => (intro w' hSw; (try dsimp only at hSw); go_simp; (try with_reducible rfl))); (try simp only [Act.put, s1, s2, s3]))
      (refine takeH (i := 11) (oi := ?o58) (v := ?v58) ?h58 (by kernel_rfl) ?q58 (Or.inl ⟨?w58, ?y58⟩) (by assumption) ?r58; (case h58 => ((simp only [g1, g2, g3]); rfl)); (case q58 => exact fun _ _ _ h => h); (case w58 => rfl); (case y58 => (intro w' hSw; (try dsimp only at hSw); go_simp; (try with_reducible rfl))); (try simp only [Act.put, s1, s2, s3]))
      (refine takeH (i := 12) (oi := ?o59) (v := ?v59) ?h59 (by kernel_rfl) ?q59 (Or.inl ⟨?w59, ?y59⟩) (by assumption) ?r59; (case h59 => ((simp only [g1, g2, g3]); rfl)); (case q59 => exact fun _ _ _ h => h); (case w59 => rfl); (case y59 => (intro w' hSw; (try dsimp only at hSw); go_simp; (try with_reducible rfl))); (try simp only [Act.put, s1, s2, s3]))
      (refine wpAnyH_ready (rs := [9]) (by kernel_rfl) (by simp) ?_; refine AllReadyH.cons (o := ?o60) ?h60 (fun K hK => ?s60) AllReadyH.nil; (case h60 => (first | ((simp only [g1, g2, g3]); rfl) | rfl)); (go_simp; go_at_call 16; refine (CF1.out _ (xk.trans hHd.2)).mono ?_; rintro e w5 ⟨⟨a5, c5, rfl, z5⟩, kk5⟩; (try dsimp only)); refine hK.out _ _ ?_ (fun hHd => ?_); (focus ((try dsimp only); exact held_kp (hHd.2.trans kk5))); clear hK K; (try simp only [Act.put]))
      (refine wpAnyH_ready (rs := [13]) (by kernel_rfl) (by simp) ?_; refine AllReadyH.cons (o := ?o62) ?h62 (fun K hK => ?s62) AllReadyH.nil; (case h62 => (first | ((simp only [g1, g2, g3]); rfl) | rfl)); (go_simp; go_at_call 17; refine (CF2.out _ (xk.trans hHd.2)).mono ?_; rintro e w6 ⟨⟨a6, c6, rfl, z6⟩, kk6⟩; (try dsimp only); have CI := Lib.hid (fun w' (k : Kp w6 w') => ints_yes a5 a6 c5 c6 G w' ((z5.kp kk6).kp k) (z6.kp k)); clear z5 z6); refine hK.out _ _ ?_ (fun hHd => ?_); (focus ((try dsimp only); exact held_kp (hHd.2.trans kk6))); clear hK K; (try simp only [Act.put]))
      (refine wpAnyH_ready (rs := [14]) (by kernel_rfl) (by simp) ?_; refine AllReadyH.cons (o := ?o64) ?h64 (fun K hK => ?s64) AllReadyH.nil; (case h64 => (first | ((simp only [g1, g2, g3]); rfl) | rfl)); (go_simp; go_at_call 15; refine (CI.out _ (Kp.refl _)).mono ?_; rintro e w7 ⟨rfl, kk7⟩; (try dsimp only)); refine hK.out _ _ ?_ (fun hHd => ?_); (focus ((try dsimp only); exact held_kp (hHd.2.trans kk7))); clear hK K; (try simp only [Act.put]))
      (refine takeH (i := 15) (oi := ?o66) (v := ?v66) ?h66 (by kernel_rfl) ?q66 (Or.inl ⟨?w66, ?y66⟩) (by assumption) ?r66; (case h66 => ((simp only [g1, g2, g3]); rfl)); (case q66 => exact fun _ _ _ h => h); (case w66 => rfl); (case y66 => (intro w' hSw; (try dsimp only at hSw); go_simp; (try with_reducible rfl))); (try simp only [Act.put, s1, s2, s3]))
      (refine takeH (i := 16) (oi := ?o67) (v := ?v67) ?h67 (by kernel_rfl) ?q67 (Or.inl ⟨?w67, ?y67⟩) (by assumption) ?r67; (case h67 => ((simp only [g1, g2, g3]); rfl)); (case q67 => exact fun _ _ _ h => h); (case w67 => rfl); (case y67 => (intro w' hSw; (try dsimp only at hSw); go_simp; (try with_reducible rfl))); (try simp only [Act.put, s1, s2, s3]))
      (refine takeH (i := 17) (oi := ?o68) (v := ?v68) ?h68 (by kernel_rfl) ?q68 (Or.inl ⟨?w68, ?y68⟩) (by assumption) ?r68; (case h68 => ((simp only [g1, g2, g3]); rfl)); (case q68 => exact fun _ _ _ h => h); (case w68 => rfl); (case y68 => (intro w' hSw; (try dsimp only at hSw); go_simp; (try with_reducible rfl))); (try simp only [Act.put, s1, s2, s3]))
      (refine takeH (i := 19) (oi := ?o69) (v := ?v69) ?h69 (by kernel_rfl) ?q69 (Or.inl ⟨?w69, ?y69⟩) (by assumption) ?r69; (case h69 => ((simp only [g1, g2, g3]); rfl)); (case q69 => exact fun _ _ _ h => h); (case w69 => rfl); (case y69 => (intro w' hSw; (try dsimp only at hSw); go_simp; (try with_reducible rfl))); (try simp only [Act.put, s1, s2, s3]))
      (refine wpAnyH_ready (rs := [18]) (by kernel_rfl) (by simp) ?_; refine AllReadyH.cons (o := ?o70) ?h70 (fun K hK => ?s70) AllReadyH.nil; (case h70 => (first | ((simp only [g1, g2, g3]); rfl) | rfl)); (go_simp; go_at_call 10; refine (CT1.out _ (xk.trans hHd.2)).mono ?_; rintro e w8 ⟨rfl, kk8⟩; (try dsimp only)); refine hK.out _ _ ?_ (fun hHd => ?_); (focus ((try dsimp only); exact held_kp (hHd.2.trans kk8))); clear hK K; (try simp only [Act.put]))
      (refine wpAnyH_ready (rs := [20]) (by kernel_rfl) (by simp) ?_; refine AllReadyH.cons (o := ?o72) ?h72 (fun K hK => ?s72) AllReadyH.nil; (case h72 => (first | ((simp only [g1, g2, g3]); rfl) | rfl)); (go_simp; go_at_call 11; refine (CT2.out _ (xk.trans hHd.2)).mono ?_; rintro e w9 ⟨rfl, kk9⟩; (try dsimp only)); refine hK.out _ _ ?_ (fun hHd => ?_); (focus ((try dsimp only); exact held_kp (hHd.2.trans kk9))); clear hK K; (try simp only [Act.put]))
      (refine takeH (i := 21) (oi := ?o74) (v := ?v74) ?h74 (by kernel_rfl) ?q74 (Or.inl ⟨?w74, ?y74⟩) (by assumption) ?r74; (case h74 => ((simp only [g1, g2, g3]); rfl)); (case q74 => exact fun _ _ _ h => h); (case w74 => rfl); (case y74 => (intro w' hSw; (try dsimp only at hSw); go_simp; (try with_reducible rfl))); (try simp only [Act.put, s1, s2, s3]))
      (refine takeH (i := 22) (oi := ?o75) (v := ?v75) ?h75 (by kernel_rfl) ?q75 (Or.inl ⟨?w75, ?y75⟩) (by assumption) ?r75; (case h75 => ((simp only [g1, g2, g3]); rfl)); (case q75 => exact fun _ _ _ h => h); (case w75 => rfl); (case y75 => (intro w' hSw; (try dsimp only at hSw); go_simp; (try with_reducible rfl))); (try simp only [Act.put, s1, s2, s3]))
      (refine takeH (i := 23) (oi := ?o76) (v := ?v76) ?h76 (by kernel_rfl) ?q76 (Or.inl ⟨?w76, ?y76⟩) (by assumption) ?r76; (case h76 => ((simp only [g1, g2, g3]); rfl)); (case q76 => exact fun _ _ _ h => h); (case w76 => rfl); (case y76 => (intro w' hSw; (try dsimp only at hSw); go_simp; (try with_reducible rfl))); (try simp only [Act.put, s1, s2, s3]))
      (refine wpAnyH_ready (rs := [24]) (by kernel_rfl) (by simp) ?_; refine AllReadyH.cons (o := ?o77) ?h77 (fun K hK => ?s77) AllReadyH.nil; (case h77 => (first | ((simp only [g1, g2, g3]); rfl) | rfl)); (go_simp; go_at_call 6; refine (CAW.out _ (xk.trans hHd.2)).mono ?_; rintro e w10 ⟨rfl, kk10⟩; (try dsimp only)); refine hK.out _ _ ?_ (fun hHd => ?_); (focus ((try dsimp only); exact held_kp (hHd.2.trans kk10))); clear hK K; (try simp only [Act.put]))
      (refine takeH (i := 25) (oi := ?o79) (v := ?v79) ?h79 (by kernel_rfl) ?q79 (Or.inl ⟨?w79, ?y79⟩) (by assumption) ?r79; (case h79 => ((simp only [g1, g2, g3]); rfl)); (case q79 => exact fun _ _ _ h => h); (case w79 => rfl); (case y79 => (intro w' hSw; (try dsimp only at hSw); go_simp; (try with_reducible rfl))); (try simp only [Act.put, s1, s2, s3]))
      (refine takeH (i := 26) (oi := ?o80) (v := ?v80) ?h80 (by kernel_rfl) ?q80 (Or.inl ⟨?w80, ?y80⟩) (by assumption) ?r80; (case h80 => ((simp only [g1, g2, g3]); rfl)); (case q80 => exact fun _ _ _ h => h); (case w80 => rfl); (case y80 => (intro w' hSw; (try dsimp only at hSw); go_simp; (try with_reducible rfl))); (try simp only [Act.put, s1, s2, s3]))
      refine wpAnyH_done (by kernel_rfl) ?_ _
      go_wp2_with fail
      (try go_ret)
      exact ⟨by first | rfl | simp, kwr.trans hHd.2⟩
set_option maxHeartbeats 1000000 in
theorem indexTells_far (a ca : Option Addr) (len cap clen ccap : Nat) (v : Value) (w : World) (he : Env w) (h : 100 < len ∨ 60 < clen) (h1 : len ≤ 9223372036854775807) (h2 : clen ≤ 9223372036854775807) (P n : Int) (hv : v = .agg #[.int .i64 P, .int .i64 n]) :
    Calls Tryd.prog 4 #[.slice a len cap, .slice ca clen ccap, v] w fun e w' => e = .returned (.bool true) ∧ Kp w w' := by
  subst hv
  have HE := Lib.hid he
  clear he
  by_cases h3 : 100 < len
  · have j1 : decide ((100 : Int) < (len : Int)) = true := decide_eq_true (by omega)
    have j2 : decide (100 < len) = true := decide_eq_true (by omega)
    go_enter Tryd.func4, Tryd.ntmps4
    go_wp2_with fail
    refine (awake9_any _ (HE.out.kp (by (repeat (first | with_reducible assumption | with_reducible exact Kp.refl _ | with_reducible refine Kp.drew ?_ | with_reducible refine Kp.drewN ?_ _ | with_reducible refine Kp.alloc ?_ _ | ((with_reducible refine Kp.setCell ?_ ?_ _); rotate_left; (focus (first | omega | (simp; done) | (simp; omega)))) | with_reducible refine Kp.trans ?_ (by assumption)))))).mono ?_
    rintro e w7 ⟨rfl, k10⟩
    go_wp2_with fail
    (try go_ret)
    exact ⟨rfl, ((by (repeat (first | with_reducible assumption | with_reducible exact Kp.refl _ | with_reducible refine Kp.drew ?_ | with_reducible refine Kp.drewN ?_ _ | with_reducible refine Kp.alloc ?_ _ | ((with_reducible refine Kp.setCell ?_ ?_ _); rotate_left; (focus (first | omega | (simp; done) | (simp; omega)))) | with_reducible refine Kp.trans ?_ (by assumption)))) : Kp w _).trans k10⟩
  · have j1 : decide ((100 : Int) < (len : Int)) = false := decide_eq_false (by omega)
    have j2 : decide (100 < len) = false := decide_eq_false (by omega)
    have j3 : decide ((60 : Int) < (clen : Int)) = true := decide_eq_true (by omega)
    have j4 : decide (60 < clen) = true := decide_eq_true (by omega)
    clear h
    go_enter Tryd.func4, Tryd.ntmps4
    go_wp2_with fail
    refine (awake9_any _ (HE.out.kp (by (repeat (first | with_reducible assumption | with_reducible exact Kp.refl _ | with_reducible refine Kp.drew ?_ | with_reducible refine Kp.drewN ?_ _ | with_reducible refine Kp.alloc ?_ _ | ((with_reducible refine Kp.setCell ?_ ?_ _); rotate_left; (focus (first | omega | (simp; done) | (simp; omega)))) | with_reducible refine Kp.trans ?_ (by assumption)))))).mono ?_
    rintro e w7 ⟨rfl, k10⟩
    go_wp2_with fail
    (try go_ret)
    exact ⟨rfl, ((by (repeat (first | with_reducible assumption | with_reducible exact Kp.refl _ | with_reducible refine Kp.drew ?_ | with_reducible refine Kp.drewN ?_ _ | with_reducible refine Kp.alloc ?_ _ | ((with_reducible refine Kp.setCell ?_ ?_ _); rotate_left; (focus (first | omega | (simp; done) | (simp; omega)))) | with_reducible refine Kp.trans ?_ (by assumption)))) : Kp w _).trans k10⟩
theorem indexTells_row (L : SlV Item) (C : SlV Col) (x : Two) (w : World) (hL : SlOk w 7 Item.cells L.a L.len L.cap L.l ∧ ∀ z, z ∈ L.l → Item.ok z) (hC : SlOk w 6 Col.cells C.a C.len C.cap C.l ∧ ∀ z, z ∈ C.l → Col.ok z) (hx : x.ok) (he : Env w) :
    Calls Tryd.prog 4 #[L.v, C.v, x.v] w fun e w' => e = .returned (.bool true) ∧ Kp w w' := by
  have e1 := hL.1.1
  have e2 := hC.1.1
  have q1 := hL.1.2.1
  have q2 := hL.1.2.2.1
  have q3 := hC.1.2.1
  have q4 := hC.1.2.2.1
  unfold maxLen at q2 q4
  by_cases h : 100 < L.len ∨ 60 < C.len
  · exact indexTells_far _ _ _ _ _ _ _ w he h (by omega) (by omega) x.a x.b rfl
  · have hL1 := hL.1
    have hC1 := hC.1
    unfold SlV.v
    rw [← e1] at h hL1 ⊢
    rw [← e2] at h hC1 ⊢
    exact indexTells_main L.a C.a L.cap C.cap L.l C.l x.a x.b w he hL1 hC1 (by omega) (by omega) (fun z hz => (hL.2 z hz).2.2.2.2.2.2) hx.1.2
end Go.Proofs.YtkgfnkfgmnijbaaDoor
