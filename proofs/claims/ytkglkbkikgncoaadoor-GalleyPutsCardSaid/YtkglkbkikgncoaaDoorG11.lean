/- The document's lines: the thing that has just this text. -/
import Derived.Test.YtkglkbkikgncoaaDoorG10

import Derived.Test.YtkglkbkikgncoaaDoorRput

namespace Go.Proofs.YtkglkbkikgncoaaDoor

open Go.ChangeShapes Go.WideShapes Go.ChangeAt Go.RowKit Go.Shelf

/-- What a line would be, by its word. -/
def refPw (w0 : List UInt8) (N : Nat → Int) : Put :=
  if w0 = wBox then ⟨1, N 0, 0, N 1, N 2⟩ else if w0 = wFloat then ⟨2, N 0, 0, N 1, N 2⟩ else if w0 = wRule then ⟨3, 0, 0, N 0, N 1⟩ else if w0 = wLine then ⟨4, N 0, N 1, N 2, N 3⟩ else ⟨N 0, N 1, N 2, N 3, N 4⟩
def numN (s : List UInt8) (i : Nat) : Int := (numsL s).getD i 0
def headW (s : List UInt8) : List UInt8 := (splitW s).headD []
def refP (s : List UInt8) : Put := refPw (headW s) (numN s)
theorem numsL_len (s : List UInt8) : 6 ≤ (numsL s).length := by unfold numsL; rw [List.length_append, List.length_replicate]; omega
theorem numsL_at (s : List UInt8) {i : Nat} (hi : i < 6) : (numsL s)[i]? = some (numN s i) := by
  have := numsL_len s
  unfold numN
  rw [List.getD_eq_getElem?_getD, List.getElem?_eq_getElem (by omega)]
  rfl
theorem numN_i64 (s : List UInt8) (i : Nat) : I64 (numN s i) := by
  have z : I64 0 := by unfold I64; omega
  unfold numN
  rw [List.getD_eq_getElem?_getD]
  cases h : (numsL s)[i]? with
  | none => exact z
  | some x =>
    have hx := List.mem_of_getElem? h
    unfold numsL valsL at hx
    rcases List.mem_append.1 hx with hx | hx
    · obtain ⟨y, _, rfl⟩ := List.mem_map.1 hx
      exact valueL_i64 y
    · rw [List.eq_of_mem_replicate hx]; exact z
theorem refP_ok (s : List UInt8) : (refP s).ok := by
  have z : I64 0 := by unfold I64; omega
  have z1 : I64 1 := by unfold I64; omega
  have z2 : I64 2 := by unfold I64; omega
  have z3 : I64 3 := by unfold I64; omega
  have z4 : I64 4 := by unfold I64; omega
  have n := numN_i64 s
  unfold refP refPw
  split
  · exact ⟨z1, n 0, z, n 1, n 2⟩
  split
  · exact ⟨z2, n 0, z, n 1, n 2⟩
  split
  · exact ⟨z3, z, z, n 0, n 1⟩
  split
  · exact ⟨z4, n 0, n 1, n 2, n 3⟩
  · exact ⟨n 0, n 1, n 2, n 3, n 4⟩
/-- The document's thing of a text. -/
def gotV (p : Put) (b : Bool) : Value := .agg #[.int .i64 p.k, .int .i64 p.n, .int .i64 p.l, .int .i64 p.y, .int .i64 p.h, .bool b]
def refGot (s : List UInt8) : Value := if putL (refP s) = s then gotV (refP s) true else gotV ⟨0, 0, 0, 0, 0⟩ false
theorem headW_line {wd : List UInt8} (hw : (32 : UInt8) ∉ wd) (ns : List Int) : headW (lineL wd ns) = wd := by unfold headW; rw [splitW_line hw]; rfl
theorem vals_line {wd : List UInt8} (hw : (32 : UInt8) ∉ wd) {ns : List Int} (h : ∀ n, n ∈ ns → I64 n) : valsL (lineL wd ns) = ns := by
  unfold valsL
  rw [splitW_line hw]
  show (ns.map Lib.itoa).map valueL = ns
  rw [List.map_map]
  conv => rhs; rw [← List.map_id ns]
  exact List.map_congr_left fun n hn => value_itoa (h n hn)
/-- Of a thing's own text the document makes just this thing. -/
theorem refP_putL {p : Put} (h : p.ok) (hn : p.norm = p) : refP (putL p) = p := by
  obtain ⟨k, n, l, y, x⟩ := p
  obtain ⟨q1, q2, q3, q4, q5⟩ := h
  simp only at q1 q2 q3 q4 q5
  unfold Put.norm at hn
  simp only at hn
  unfold refP numN numsL putL
  simp only
  by_cases h1 : k = 1
  · subst h1
    rw [if_pos (.inl rfl), Put.mk.injEq] at hn
    obtain ⟨_, _, rfl, _, _⟩ := hn
    rw [if_pos rfl, headW_line (by decide), vals_line (by decide) (by simp [q2, q4, q5])]
    rfl
  by_cases h2 : k = 2
  · subst h2
    rw [if_pos (.inr rfl), Put.mk.injEq] at hn
    obtain ⟨_, _, rfl, _, _⟩ := hn
    rw [if_neg h1, if_pos rfl, headW_line (by decide), vals_line (by decide) (by simp [q2, q4, q5])]
    rfl
  by_cases h3 : k = 3
  · subst h3
    rw [if_neg (by decide), if_pos rfl, Put.mk.injEq] at hn
    obtain ⟨_, rfl, rfl, _, _⟩ := hn
    rw [if_neg h1, if_neg h2, if_pos rfl, headW_line (by decide), vals_line (by decide) (by simp [q4, q5])]
    rfl
  by_cases h4 : k = 4
  · subst h4
    rw [if_neg h1, if_neg h2, if_neg h3, if_pos rfl, headW_line (by decide), vals_line (by decide) (by simp [q2, q3, q4, q5])]
    rfl
  rw [if_neg h1, if_neg h2, if_neg h3, if_neg h4, headW_line (by decide), vals_line (by decide) (by simp [q1, q2, q3, q4, q5])]
  rfl
/-- A thing that has just this text is told by it in full. -/
theorem refP_norm {s : List UInt8} (h : putL (refP s) = s) : (refP s).norm = refP s := by
  unfold refP refPw at h ⊢
  split
  · rfl
  rename_i h1
  rw [if_neg h1] at h
  split
  · rfl
  rename_i h2
  rw [if_neg h2] at h
  split
  · rfl
  rename_i h3
  rw [if_neg h3] at h
  split
  · rfl
  rename_i h4
  rw [if_neg h4] at h
  unfold Put.norm
  unfold putL at h
  simp only at h ⊢
  by_cases k1 : numN s 0 = 1
  · rw [if_pos k1] at h
    exact absurd (by rw [← h, headW_line (by decide)]) h1
  by_cases k2 : numN s 0 = 2
  · rw [if_neg k1, if_pos k2] at h
    exact absurd (by rw [← h, headW_line (by decide)]) h2
  by_cases k3 : numN s 0 = 3
  · rw [if_neg k1, if_neg k2, if_pos k3] at h
    exact absurd (by rw [← h, headW_line (by decide)]) h3
  rw [if_neg (by omega), if_neg k3]
/-- The program and the document tell the same thing. -/
theorem refGot_put (s : List UInt8) : refGot s = match putP s with
    | some p => gotV p true
    | none => gotV ⟨0, 0, 0, 0, 0⟩ false := by
  unfold refGot
  cases h : putP s with
  | some p =>
    obtain ⟨e1, e2, e3⟩ := putP_ok h
    have e : refP s = p := by rw [e1]; exact refP_putL e3 e2
    rw [e, if_pos e1.symm]
  | none =>
    rw [if_neg (fun e => ?_)]
    have hh := putP_putL (refP_ok s)
    rw [e, h] at hh
    cases hh
set_option maxRecDepth 100000 in
set_option maxHeartbeats 8000000 in
theorem refPut51_Box (s : List UInt8) (ws : List (List UInt8)) (hw : splitW s = wBox :: ws) (n0 n1 n2 n3 n4 : Int) (hn : (numsL s)[0]? = some n0 ∧ (numsL s)[1]? = some n1 ∧ (numsL s)[2]? = some n2 ∧ (numsL s)[3]? = some n3 ∧ (numsL s)[4]? = some n4) (hp : Put.ok ⟨1, n0, 0, n1, n2⟩) (hs : s.length ≤ 10000) (w : World) :
    Calls Tryd.prog 11 #[sv s] w fun e w' => e = .returned (if putL ⟨1, n0, 0, n1, n2⟩ = s then gotV ⟨1, n0, 0, n1, n2⟩ true else gotV ⟨0, 0, 0, 0, 0⟩ false) ∧ Kp w w' := by
  have CN := Lib.hid (fun w' => nums_any s hs w')
  have CW := Lib.hid (fun w' => words_any s hs w')
  rw [hw] at CW
  have HN := Lib.hid hn
  have CP := Lib.hid (fun w' => refPut_any ⟨1, n0, 0, n1, n2⟩ hp w')
  obtain ⟨T, hT⟩ : ∃ T, putL ⟨1, n0, 0, n1, n2⟩ = T := ⟨_, rfl⟩
  rw [hT] at CP ⊢
  have h6 := numsL_len s
  clear hn hp hT hw
  go_enter Tryd.func11, Tryd.ntmps11
  go_wp2_with fail
  refine (CN.out _).mono ?_
  rintro e w1 ⟨v1, rfl, hr1, k1⟩
  obtain ⟨a1, c1, rfl, sl1⟩ := hr1.sl (fun _ => rfl)
  have m1 := sl1.2.1
  have m2 := sl1.2.2.1
  unfold maxLen at m2
  rcases sl1.2.2.2 with e | ⟨g, o, rfl, hg, r1⟩
  · rw [e] at h6; simp at h6
  have d0 := r1 0 _ HN.out.1 0 _ rfl
  have d1 := r1 1 _ HN.out.2.1 0 _ rfl
  have d2 := r1 2 _ HN.out.2.2.1 0 _ rfl
  have d3 := r1 3 _ HN.out.2.2.2.1 0 _ rfl
  have d4 := r1 4 _ HN.out.2.2.2.2 0 _ rfl
  simp only [Nat.add_zero, Nat.mul_one] at d0 d1 d2 d3 d4
  have br1 : Blk w1 w.heap.size [.int .i64 0, .int .i64 0, .int .i64 0, .int .i64 0, .int .i64 0, .bool false] 37 := Blk.kp (by (repeat (first | with_reducible assumption | ((with_reducible refine Blk.newL ?_ ?_); (focus (first | (simp; done) | omega)); rfl) | with_reducible refine Blk.drew ?_ | with_reducible refine Blk.drewN ?_ _ | with_reducible refine Blk.alloc ?_ _ | ((with_reducible refine Blk.other ?_ ?_ _); rotate_left; (focus (first | with_reducible assumption | omega | (simp; done) | (simp; omega))))))) k1
  have kw1 : Kp w w1 := ((by (repeat (first | with_reducible assumption | with_reducible exact Kp.refl _ | with_reducible refine Kp.drew ?_ | with_reducible refine Kp.drewN ?_ _ | with_reducible refine Kp.alloc ?_ _ | ((with_reducible refine Kp.setCell ?_ ?_ _); rotate_left; (focus (first | omega | (simp; done) | (simp; omega)))) | with_reducible refine Kp.trans ?_ (by assumption)))) : Kp w _).trans k1
  obtain ⟨L, hL⟩ : ∃ L, (numsL s).length = L := ⟨_, rfl⟩
  rw [hL] at h6 m1 ⊢
  have l0 : 0 < L := by omega
  have l1 : (1 : Int) < (L : Int) := by omega
  have l2 : (2 : Int) < (L : Int) := by omega
  have l3 : (3 : Int) < (L : Int) := by omega
  have l4 : (4 : Int) < (L : Int) := by omega
  clear hr1 sl1 r1 k1 hL HN CN
  go_wp2_with fail
  refine (CW.out _).mono ?_
  rintro e w2 ⟨v2, rfl, hr2, k2⟩
  obtain ⟨a2, c2, rfl, sl2⟩ := hr2.sl (fun _ => rfl)
  have m3 := sl2.2.1
  have m4 := sl2.2.2.1
  unfold maxLen at m4
  rcases sl2.2.2.2 with e | ⟨g2', o2, rfl, hg2, r2⟩
  · cases e
  have q0 := r2 0 _ rfl 0 _ rfl
  simp only [Nat.add_zero, Nat.mul_one] at q0
  have kw2 : Kp w1 w2 := ((by (repeat (first | with_reducible assumption | with_reducible exact Kp.refl _ | with_reducible refine Kp.drew ?_ | with_reducible refine Kp.drewN ?_ _ | with_reducible refine Kp.alloc ?_ _ | ((with_reducible refine Kp.setCell ?_ ?_ _); rotate_left; (focus (first | omega | (simp; done) | (simp; omega)))) | with_reducible refine Kp.trans ?_ (by assumption)))) : Kp w1 _).trans k2
  have br := br1.kp kw2
  have bp : Blk w2 w1.heap.size [.int .i64 0, .int .i64 0, .int .i64 0, .int .i64 0, .int .i64 0] 33 := Blk.kp (by (repeat (first | with_reducible assumption | ((with_reducible refine Blk.newL ?_ ?_); (focus (first | (simp; done) | omega)); rfl) | with_reducible refine Blk.drew ?_ | with_reducible refine Blk.drewN ?_ _ | with_reducible refine Blk.alloc ?_ _ | ((with_reducible refine Blk.other ?_ ?_ _); rotate_left; (focus (first | with_reducible assumption | omega | (simp; done) | (simp; omega))))))) k2
  have brl := br1.lt
  clear hr2 sl2 r2 k2 br1 CW
  have f0 := bp.free 0
  have z0 := bp.cell 0 rfl
  have f1 := bp.free 1
  have z1 := bp.cell 1 rfl
  have f2 := bp.free 2
  have z2 := bp.cell 2 rfl
  have f3 := bp.free 3
  have z3 := bp.cell 3 rfl
  have f4 := bp.free 4
  have z4 := bp.cell 4 rfl
  go_wp2_with fail
  (refine wp_region_held_drew (S := (fun w' => (∀ b o, b < w1.heap.size → w'.cell? ⟨b, o, none⟩ = w1.cell? ⟨b, o, none⟩) ∧ Kp w1 w')) (by kernel_rfl) ?_ (fun hHd => ?_); (focus ((try dsimp only); (first | with_reducible assumption | with_reducible exact held_start _ | with_reducible exact held_next (by assumption) (by assumption) | with_reducible exact held_alloc (by assumption) _ | with_reducible exact held_drew (by assumption) | ((with_reducible refine held_kp ?_); (repeat (first | with_reducible assumption | with_reducible exact Kp.refl _ | with_reducible refine Kp.drew ?_ | with_reducible refine Kp.drewN ?_ _ | with_reducible refine Kp.alloc ?_ _ | ((with_reducible refine Kp.setCell ?_ ?_ _); rotate_left; (focus (first | omega | (simp; done) | (simp; omega)))) | with_reducible refine Kp.trans ?_ (by assumption))))))))
  (refine takeH (i := 0) (oi := ?o264) (v := ?v264) ?h264 (by kernel_rfl) ?q264 (Or.inl ⟨?w264, ?y264⟩) (by assumption) ?r264; (case h264 => ((simp only [g1, g3]); rfl)); (case q264 => exact fun _ _ _ h => h); (case w264 => rfl); (case y264 => (intro w' hSw; (try dsimp only at hSw); go_simp; (try with_reducible rfl))); (try simp only [Act.put, s1, s2, s3]))
  (refine takeH (i := 1) (oi := ?o265) (v := ?v265) ?h265 (by kernel_rfl) ?q265 (Or.inl ⟨?w265, ?y265⟩) (by assumption) ?r265; (case h265 => ((simp only [g1, g2, g3]); rfl)); (case q265 => exact fun _ _ _ h => h); (case w265 => rfl); (case y265 => (intro w' hSw; (try dsimp only at hSw); go_simp; (try with_reducible rfl))); (try simp only [Act.put, s1, s2, s3]))
  (refine takeH (i := 2) (oi := ?o266) (v := ?v266) ?h266 (by kernel_rfl) ?q266 (Or.inl ⟨?w266, ?y266⟩) (by assumption) ?r266; (case h266 => ((simp only [g1, g2, g3]); rfl)); (case q266 => exact fun _ _ _ h => h); (case w266 => rfl); (case y266 => (intro w' hSw; (try dsimp only at hSw); go_simp; (try with_reducible rfl))); (try simp only [Act.put, s1, s2, s3]))
  (refine takeH (i := 3) (oi := ?o267) (v := ?v267) ?h267 (by kernel_rfl) ?q267 (Or.inl ⟨?w267, ?y267⟩) (by assumption) ?r267; (case h267 => ((simp only [g1, g2, g3]); rfl)); (case q267 => exact fun _ _ _ h => h); (case w267 => rfl); (case y267 => (intro w' hSw; (try dsimp only at hSw); go_simp; (try with_reducible rfl))); (try simp only [Act.put, s1, s2, s3]))
  (refine takeH (i := 4) (oi := ?o268) (v := ?v268) ?h268 (by kernel_rfl) ?q268 (Or.inl ⟨?w268, ?y268⟩) (by assumption) ?r268; (case h268 => ((simp only [g1, g2, g3]); rfl)); (case q268 => exact fun _ _ _ h => h); (case w268 => rfl); (case y268 => (intro w' hSw; (try dsimp only at hSw); go_simp; (try with_reducible rfl))); (try simp only [Act.put, s1, s2, s3]))
  (refine takeH (i := 5) (oi := ?o269) (v := ?v269) ?h269 (by kernel_rfl) ?q269 (Or.inl ⟨?w269, ?y269⟩) (by assumption) ?r269; (case h269 => ((simp only [g1, g2, g3]); rfl)); (case q269 => exact fun _ _ _ h => h); (case w269 => rfl); (case y269 => (intro w' hSw; (try dsimp only at hSw); go_simp; (try with_reducible rfl))); (try simp only [Act.put, s1, s2, s3]))
  (refine takeH (i := 6) (oi := ?o270) (v := ?v270) ?h270 (by kernel_rfl) ?q270 (Or.inl ⟨?w270, ?y270⟩) (by assumption) ?r270; (case h270 => ((simp only [g1, g2, g3]); rfl)); (case q270 => exact fun _ _ _ h => h); (case w270 => rfl); (case y270 => (intro w' hSw; (try dsimp only at hSw); go_simp; (try with_reducible rfl))); (try simp only [Act.put, s1, s2, s3]))
  (refine takeH (i := 7) (oi := ?o271) (v := ?v271) ?h271 (by kernel_rfl) ?q271 (Or.inl ⟨?w271, ?y271⟩) (by assumption) ?r271; (case h271 => ((simp only [g1, g2, g3]); rfl)); (case q271 => exact fun _ _ _ h => h); (case w271 => rfl); (case y271 => (intro w' hSw; (try dsimp only at hSw); go_simp; (try with_reducible rfl))); (try simp only [Act.put, s1, s2, s3]))
  (refine takeH (i := 8) (oi := ?o272) (v := ?v272) ?h272 (by kernel_rfl) ?q272 (Or.inl ⟨?w272, ?y272⟩) (by assumption) ?r272; (case h272 => ((simp only [g1, g2, g3]); rfl)); (case q272 => exact fun _ _ _ h => h); (case w272 => rfl); (case y272 => (intro w' hSw; (try dsimp only at hSw); go_simp; (try with_reducible rfl))); (try simp only [Act.put, s1, s2, s3]))
  (refine takeH (i := 9) (oi := ?o273) (v := ?v273) ?h273 (by kernel_rfl) ?q273 (Or.inl ⟨?w273, ?y273⟩) (by assumption) ?r273; (case h273 => ((simp only [g1, g2, g3]); rfl)); (case q273 => exact fun _ _ _ h => h); (case w273 => rfl); (case y273 => (intro w' hSw; (try dsimp only at hSw); go_simp; (try with_reducible rfl))); (try simp only [Act.put, s1, s2, s3]))
  (refine wpAnyH_ready (rs := [10]) (by kernel_rfl) (by simp) ?_; refine AllReadyH.cons (o := ?o274) ?h274 (fun K hK => ?s274) AllReadyH.nil; (case h274 => (first | ((simp only [g1, g2, g3]); rfl) | rfl)); go_simp; (try dsimp only); refine hK.out _ _ ?_ (fun hHd => ?_); (focus ((try dsimp only); (first | with_reducible assumption | with_reducible exact held_start _ | with_reducible exact held_next (by assumption) (by assumption) | with_reducible exact held_alloc (by assumption) _ | with_reducible exact held_drew (by assumption) | ((with_reducible refine held_kp ?_); (repeat (first | with_reducible assumption | with_reducible exact Kp.refl _ | with_reducible refine Kp.drew ?_ | with_reducible refine Kp.drewN ?_ _ | with_reducible refine Kp.alloc ?_ _ | ((with_reducible refine Kp.setCell ?_ ?_ _); rotate_left; (focus (first | omega | (simp; done) | (simp; omega)))) | with_reducible refine Kp.trans ?_ (by assumption))))))); clear hK K; (try simp only [Act.put, s1, s2, s3]))
  refine wpAnyH_done (by kernel_rfl) ?_ _
  clear hHd
  have bp5 := (((((bp.set 0 (.int .i64 1)).set 1 (.int .i64 n0)).set 2 (.int .i64 0)).set 3 (.int .i64 n1)).set 4 (.int .i64 n2)).drew
  have br5 := (((((br.other (a := ⟨w1.heap.size, 0, none⟩) (by show w.heap.size ≠ w1.heap.size; omega) (.int .i64 1)).other (a := ⟨w1.heap.size, 1, none⟩) (by show w.heap.size ≠ w1.heap.size; omega) (.int .i64 n0)).other (a := ⟨w1.heap.size, 2, none⟩) (by show w.heap.size ≠ w1.heap.size; omega) (.int .i64 0)).other (a := ⟨w1.heap.size, 3, none⟩) (by show w.heap.size ≠ w1.heap.size; omega) (.int .i64 n1)).other (a := ⟨w1.heap.size, 4, none⟩) (by show w.heap.size ≠ w1.heap.size; omega) (.int .i64 n2)).drew
  have kw5 : Kp w (((((w2.setCell ⟨w1.heap.size, 0, none⟩ (.int .i64 1)).setCell ⟨w1.heap.size, 1, none⟩ (.int .i64 n0)).setCell ⟨w1.heap.size, 2, none⟩ (.int .i64 0)).setCell ⟨w1.heap.size, 3, none⟩ (.int .i64 n1)).setCell ⟨w1.heap.size, 4, none⟩ (.int .i64 n2)).drew := (by (repeat (first | with_reducible assumption | with_reducible exact Kp.refl _ | with_reducible refine Kp.drew ?_ | with_reducible refine Kp.drewN ?_ _ | with_reducible refine Kp.alloc ?_ _ | ((with_reducible refine Kp.setCell ?_ ?_ _); rotate_left; (focus (first | omega | (simp; done) | (simp; omega)))) | with_reducible refine Kp.trans ?_ (by assumption))))
  clear f0 z0 f1 z1 f2 z2 f3 z3 f4 z4 d0 d1 d2 d3 d4 br bp
  generalize (((((w2.setCell ⟨w1.heap.size, 0, none⟩ (.int .i64 1)).setCell ⟨w1.heap.size, 1, none⟩ (.int .i64 n0)).setCell ⟨w1.heap.size, 2, none⟩ (.int .i64 0)).setCell ⟨w1.heap.size, 3, none⟩ (.int .i64 n1)).setCell ⟨w1.heap.size, 4, none⟩ (.int .i64 n2)).drew = w5 at bp5 br5 kw5 ⊢
  have z0 := bp5.cell 0 rfl
  have z1 := bp5.cell 1 rfl
  have z2 := bp5.cell 2 rfl
  have z3 := bp5.cell 3 rfl
  have z4 := bp5.cell 4 rfl
  have f0 := br5.free 0
  have y0 := br5.cell 0 rfl
  have f1 := br5.free 1
  have y1 := br5.cell 1 rfl
  have f2 := br5.free 2
  have y2 := br5.cell 2 rfl
  have f3 := br5.free 3
  have y3 := br5.cell 3 rfl
  have f4 := br5.free 4
  have y4 := br5.cell 4 rfl
  have f5 := br5.free 5
  have y5 := br5.cell 5 rfl
  go_wp2_with fail
  refine (CP.out _).mono ?_
  rintro e w6 ⟨rfl, k6⟩
  have kw6 := kw5.trans k6
  have br6 := br5.kp k6
  have bp6 := bp5.kp k6
  clear z0 z1 z2 z3 z4 f0 f1 f2 f3 f4 f5 y0 y1 y2 y3 y4 y5 k6 bp5 br5 kw5
  have z0 := bp6.cell 0 rfl
  have z1 := bp6.cell 1 rfl
  have z2 := bp6.cell 2 rfl
  have z3 := bp6.cell 3 rfl
  have z4 := bp6.cell 4 rfl
  have f0 := br6.free 0
  have y0 := br6.cell 0 rfl
  have f1 := br6.free 1
  have y1 := br6.cell 1 rfl
  have f2 := br6.free 2
  have y2 := br6.cell 2 rfl
  have f3 := br6.free 3
  have y3 := br6.cell 3 rfl
  have f4 := br6.free 4
  have y4 := br6.cell 4 rfl
  have f5 := br6.free 5
  have y5 := br6.cell 5 rfl
  by_cases hts : T = s
  · have t0 : (T == s) = true := beq_iff_eq.2 hts
    have HTS := Lib.hid hts
    clear hts
    go_wp2_with fail
    have zz := ((((((br6.set 0 (.int .i64 1)).set 1 (.int .i64 n0)).set 2 (.int .i64 0)).set 3 (.int .i64 n1)).set 4 (.int .i64 n2)).set 5 (.bool true))
    have x0 := zz.cell 0 rfl
    have x1 := zz.cell 1 rfl
    have x2 := zz.cell 2 rfl
    have x3 := zz.cell 3 rfl
    have x4 := zz.cell 4 rfl
    have x5 := zz.cell 5 rfl
    clear y0 y1 y2 y3 y4 y5
    refine bodyPost_ret (v := .agg #[.int .i64 1, .int .i64 n0, .int .i64 0, .int .i64 n1, .int .i64 n2, .bool true]) (by simp [results, Tryd.results11, go_sem, x0, x1, x2, x3, x4, x5]) rfl ?_
    exact ⟨by first | rfl | (rw [if_pos HTS.out]; rfl), (by (repeat (first | with_reducible assumption | with_reducible exact Kp.refl _ | with_reducible refine Kp.drew ?_ | with_reducible refine Kp.drewN ?_ _ | with_reducible refine Kp.alloc ?_ _ | ((with_reducible refine Kp.setCell ?_ ?_ _); rotate_left; (focus (first | omega | (simp; done) | (simp; omega)))) | with_reducible refine Kp.trans ?_ (by assumption))))⟩
  · have t0 : (T == s) = false := beq_eq_false_iff_ne.2 hts
    have HTS := Lib.hid hts
    clear hts
    go_wp2_with fail
    have zz := ((((((br6.set 0 (.int .i64 0)).set 1 (.int .i64 0)).set 2 (.int .i64 0)).set 3 (.int .i64 0)).set 4 (.int .i64 0)).set 5 (.bool false))
    have x0 := zz.cell 0 rfl
    have x1 := zz.cell 1 rfl
    have x2 := zz.cell 2 rfl
    have x3 := zz.cell 3 rfl
    have x4 := zz.cell 4 rfl
    have x5 := zz.cell 5 rfl
    clear y0 y1 y2 y3 y4 y5
    refine bodyPost_ret (v := .agg #[.int .i64 0, .int .i64 0, .int .i64 0, .int .i64 0, .int .i64 0, .bool false]) (by simp [results, Tryd.results11, go_sem, x0, x1, x2, x3, x4, x5]) rfl ?_
    exact ⟨by first | rfl | (rw [if_neg HTS.out]; rfl), (by (repeat (first | with_reducible assumption | with_reducible exact Kp.refl _ | with_reducible refine Kp.drew ?_ | with_reducible refine Kp.drewN ?_ _ | with_reducible refine Kp.alloc ?_ _ | ((with_reducible refine Kp.setCell ?_ ?_ _); rotate_left; (focus (first | omega | (simp; done) | (simp; omega)))) | with_reducible refine Kp.trans ?_ (by assumption))))⟩
set_option maxRecDepth 100000 in
set_option maxHeartbeats 8000000 in
theorem refPut51_Float (s : List UInt8) (ws : List (List UInt8)) (hw : splitW s = wFloat :: ws) (n0 n1 n2 n3 n4 : Int) (hn : (numsL s)[0]? = some n0 ∧ (numsL s)[1]? = some n1 ∧ (numsL s)[2]? = some n2 ∧ (numsL s)[3]? = some n3 ∧ (numsL s)[4]? = some n4) (hp : Put.ok ⟨2, n0, 0, n1, n2⟩) (hs : s.length ≤ 10000) (w : World) :
    Calls Tryd.prog 11 #[sv s] w fun e w' => e = .returned (if putL ⟨2, n0, 0, n1, n2⟩ = s then gotV ⟨2, n0, 0, n1, n2⟩ true else gotV ⟨0, 0, 0, 0, 0⟩ false) ∧ Kp w w' := by
  have CN := Lib.hid (fun w' => nums_any s hs w')
  have CW := Lib.hid (fun w' => words_any s hs w')
  rw [hw] at CW
  have HN := Lib.hid hn
  have CP := Lib.hid (fun w' => refPut_any ⟨2, n0, 0, n1, n2⟩ hp w')
  obtain ⟨T, hT⟩ : ∃ T, putL ⟨2, n0, 0, n1, n2⟩ = T := ⟨_, rfl⟩
  rw [hT] at CP ⊢
  have h6 := numsL_len s
  clear hn hp hT hw
  go_enter Tryd.func11, Tryd.ntmps11
  go_wp2_with fail
  refine (CN.out _).mono ?_
  rintro e w1 ⟨v1, rfl, hr1, k1⟩
  obtain ⟨a1, c1, rfl, sl1⟩ := hr1.sl (fun _ => rfl)
  have m1 := sl1.2.1
  have m2 := sl1.2.2.1
  unfold maxLen at m2
  rcases sl1.2.2.2 with e | ⟨g, o, rfl, hg, r1⟩
  · rw [e] at h6; simp at h6
  have d0 := r1 0 _ HN.out.1 0 _ rfl
  have d1 := r1 1 _ HN.out.2.1 0 _ rfl
  have d2 := r1 2 _ HN.out.2.2.1 0 _ rfl
  have d3 := r1 3 _ HN.out.2.2.2.1 0 _ rfl
  have d4 := r1 4 _ HN.out.2.2.2.2 0 _ rfl
  simp only [Nat.add_zero, Nat.mul_one] at d0 d1 d2 d3 d4
  have br1 : Blk w1 w.heap.size [.int .i64 0, .int .i64 0, .int .i64 0, .int .i64 0, .int .i64 0, .bool false] 37 := Blk.kp (by (repeat (first | with_reducible assumption | ((with_reducible refine Blk.newL ?_ ?_); (focus (first | (simp; done) | omega)); rfl) | with_reducible refine Blk.drew ?_ | with_reducible refine Blk.drewN ?_ _ | with_reducible refine Blk.alloc ?_ _ | ((with_reducible refine Blk.other ?_ ?_ _); rotate_left; (focus (first | with_reducible assumption | omega | (simp; done) | (simp; omega))))))) k1
  have kw1 : Kp w w1 := ((by (repeat (first | with_reducible assumption | with_reducible exact Kp.refl _ | with_reducible refine Kp.drew ?_ | with_reducible refine Kp.drewN ?_ _ | with_reducible refine Kp.alloc ?_ _ | ((with_reducible refine Kp.setCell ?_ ?_ _); rotate_left; (focus (first | omega | (simp; done) | (simp; omega)))) | with_reducible refine Kp.trans ?_ (by assumption)))) : Kp w _).trans k1
  obtain ⟨L, hL⟩ : ∃ L, (numsL s).length = L := ⟨_, rfl⟩
  rw [hL] at h6 m1 ⊢
  have l0 : 0 < L := by omega
  have l1 : (1 : Int) < (L : Int) := by omega
  have l2 : (2 : Int) < (L : Int) := by omega
  have l3 : (3 : Int) < (L : Int) := by omega
  have l4 : (4 : Int) < (L : Int) := by omega
  clear hr1 sl1 r1 k1 hL HN CN
  go_wp2_with fail
  refine (CW.out _).mono ?_
  rintro e w2 ⟨v2, rfl, hr2, k2⟩
  obtain ⟨a2, c2, rfl, sl2⟩ := hr2.sl (fun _ => rfl)
  have m3 := sl2.2.1
  have m4 := sl2.2.2.1
  unfold maxLen at m4
  rcases sl2.2.2.2 with e | ⟨g2', o2, rfl, hg2, r2⟩
  · cases e
  have q0 := r2 0 _ rfl 0 _ rfl
  simp only [Nat.add_zero, Nat.mul_one] at q0
  have kw2 : Kp w1 w2 := ((by (repeat (first | with_reducible assumption | with_reducible exact Kp.refl _ | with_reducible refine Kp.drew ?_ | with_reducible refine Kp.drewN ?_ _ | with_reducible refine Kp.alloc ?_ _ | ((with_reducible refine Kp.setCell ?_ ?_ _); rotate_left; (focus (first | omega | (simp; done) | (simp; omega)))) | with_reducible refine Kp.trans ?_ (by assumption)))) : Kp w1 _).trans k2
  have br := br1.kp kw2
  have bp : Blk w2 w1.heap.size [.int .i64 0, .int .i64 0, .int .i64 0, .int .i64 0, .int .i64 0] 33 := Blk.kp (by (repeat (first | with_reducible assumption | ((with_reducible refine Blk.newL ?_ ?_); (focus (first | (simp; done) | omega)); rfl) | with_reducible refine Blk.drew ?_ | with_reducible refine Blk.drewN ?_ _ | with_reducible refine Blk.alloc ?_ _ | ((with_reducible refine Blk.other ?_ ?_ _); rotate_left; (focus (first | with_reducible assumption | omega | (simp; done) | (simp; omega))))))) k2
  have brl := br1.lt
  clear hr2 sl2 r2 k2 br1 CW
  have f0 := bp.free 0
  have z0 := bp.cell 0 rfl
  have f1 := bp.free 1
  have z1 := bp.cell 1 rfl
  have f2 := bp.free 2
  have z2 := bp.cell 2 rfl
  have f3 := bp.free 3
  have z3 := bp.cell 3 rfl
  have f4 := bp.free 4
  have z4 := bp.cell 4 rfl
  go_wp2_with fail
  (refine wp_region_held_drew (S := (fun w' => (∀ b o, b < w1.heap.size → w'.cell? ⟨b, o, none⟩ = w1.cell? ⟨b, o, none⟩) ∧ Kp w1 w')) (by kernel_rfl) ?_ (fun hHd => ?_); (focus ((try dsimp only); (first | with_reducible assumption | with_reducible exact held_start _ | with_reducible exact held_next (by assumption) (by assumption) | with_reducible exact held_alloc (by assumption) _ | with_reducible exact held_drew (by assumption) | ((with_reducible refine held_kp ?_); (repeat (first | with_reducible assumption | with_reducible exact Kp.refl _ | with_reducible refine Kp.drew ?_ | with_reducible refine Kp.drewN ?_ _ | with_reducible refine Kp.alloc ?_ _ | ((with_reducible refine Kp.setCell ?_ ?_ _); rotate_left; (focus (first | omega | (simp; done) | (simp; omega)))) | with_reducible refine Kp.trans ?_ (by assumption))))))))
  (refine takeH (i := 0) (oi := ?o275) (v := ?v275) ?h275 (by kernel_rfl) ?q275 (Or.inl ⟨?w275, ?y275⟩) (by assumption) ?r275; (case h275 => ((simp only [g1, g3]); rfl)); (case q275 => exact fun _ _ _ h => h); (case w275 => rfl); (case y275 => (intro w' hSw; (try dsimp only at hSw); go_simp; (try with_reducible rfl))); (try simp only [Act.put, s1, s2, s3]))
  (refine takeH (i := 1) (oi := ?o276) (v := ?v276) ?h276 (by kernel_rfl) ?q276 (Or.inl ⟨?w276, ?y276⟩) (by assumption) ?r276; (case h276 => ((simp only [g1, g2, g3]); rfl)); (case q276 => exact fun _ _ _ h => h); (case w276 => rfl); (case y276 => (intro w' hSw; (try dsimp only at hSw); go_simp; (try with_reducible rfl))); (try simp only [Act.put, s1, s2, s3]))
  (refine takeH (i := 2) (oi := ?o277) (v := ?v277) ?h277 (by kernel_rfl) ?q277 (Or.inl ⟨?w277, ?y277⟩) (by assumption) ?r277; (case h277 => ((simp only [g1, g2, g3]); rfl)); (case q277 => exact fun _ _ _ h => h); (case w277 => rfl); (case y277 => (intro w' hSw; (try dsimp only at hSw); go_simp; (try with_reducible rfl))); (try simp only [Act.put, s1, s2, s3]))
  (refine takeH (i := 3) (oi := ?o278) (v := ?v278) ?h278 (by kernel_rfl) ?q278 (Or.inl ⟨?w278, ?y278⟩) (by assumption) ?r278; (case h278 => ((simp only [g1, g2, g3]); rfl)); (case q278 => exact fun _ _ _ h => h); (case w278 => rfl); (case y278 => (intro w' hSw; (try dsimp only at hSw); go_simp; (try with_reducible rfl))); (try simp only [Act.put, s1, s2, s3]))
  (refine takeH (i := 4) (oi := ?o279) (v := ?v279) ?h279 (by kernel_rfl) ?q279 (Or.inl ⟨?w279, ?y279⟩) (by assumption) ?r279; (case h279 => ((simp only [g1, g2, g3]); rfl)); (case q279 => exact fun _ _ _ h => h); (case w279 => rfl); (case y279 => (intro w' hSw; (try dsimp only at hSw); go_simp; (try with_reducible rfl))); (try simp only [Act.put, s1, s2, s3]))
  (refine takeH (i := 5) (oi := ?o280) (v := ?v280) ?h280 (by kernel_rfl) ?q280 (Or.inl ⟨?w280, ?y280⟩) (by assumption) ?r280; (case h280 => ((simp only [g1, g2, g3]); rfl)); (case q280 => exact fun _ _ _ h => h); (case w280 => rfl); (case y280 => (intro w' hSw; (try dsimp only at hSw); go_simp; (try with_reducible rfl))); (try simp only [Act.put, s1, s2, s3]))
  (refine takeH (i := 6) (oi := ?o281) (v := ?v281) ?h281 (by kernel_rfl) ?q281 (Or.inl ⟨?w281, ?y281⟩) (by assumption) ?r281; (case h281 => ((simp only [g1, g2, g3]); rfl)); (case q281 => exact fun _ _ _ h => h); (case w281 => rfl); (case y281 => (intro w' hSw; (try dsimp only at hSw); go_simp; (try with_reducible rfl))); (try simp only [Act.put, s1, s2, s3]))
  (refine takeH (i := 7) (oi := ?o282) (v := ?v282) ?h282 (by kernel_rfl) ?q282 (Or.inl ⟨?w282, ?y282⟩) (by assumption) ?r282; (case h282 => ((simp only [g1, g2, g3]); rfl)); (case q282 => exact fun _ _ _ h => h); (case w282 => rfl); (case y282 => (intro w' hSw; (try dsimp only at hSw); go_simp; (try with_reducible rfl))); (try simp only [Act.put, s1, s2, s3]))
  (refine takeH (i := 8) (oi := ?o283) (v := ?v283) ?h283 (by kernel_rfl) ?q283 (Or.inl ⟨?w283, ?y283⟩) (by assumption) ?r283; (case h283 => ((simp only [g1, g2, g3]); rfl)); (case q283 => exact fun _ _ _ h => h); (case w283 => rfl); (case y283 => (intro w' hSw; (try dsimp only at hSw); go_simp; (try with_reducible rfl))); (try simp only [Act.put, s1, s2, s3]))
  (refine takeH (i := 9) (oi := ?o284) (v := ?v284) ?h284 (by kernel_rfl) ?q284 (Or.inl ⟨?w284, ?y284⟩) (by assumption) ?r284; (case h284 => ((simp only [g1, g2, g3]); rfl)); (case q284 => exact fun _ _ _ h => h); (case w284 => rfl); (case y284 => (intro w' hSw; (try dsimp only at hSw); go_simp; (try with_reducible rfl))); (try simp only [Act.put, s1, s2, s3]))
  (refine wpAnyH_ready (rs := [10]) (by kernel_rfl) (by simp) ?_; refine AllReadyH.cons (o := ?o285) ?h285 (fun K hK => ?s285) AllReadyH.nil; (case h285 => (first | ((simp only [g1, g2, g3]); rfl) | rfl)); go_simp; (try dsimp only); refine hK.out _ _ ?_ (fun hHd => ?_); (focus ((try dsimp only); (first | with_reducible assumption | with_reducible exact held_start _ | with_reducible exact held_next (by assumption) (by assumption) | with_reducible exact held_alloc (by assumption) _ | with_reducible exact held_drew (by assumption) | ((with_reducible refine held_kp ?_); (repeat (first | with_reducible assumption | with_reducible exact Kp.refl _ | with_reducible refine Kp.drew ?_ | with_reducible refine Kp.drewN ?_ _ | with_reducible refine Kp.alloc ?_ _ | ((with_reducible refine Kp.setCell ?_ ?_ _); rotate_left; (focus (first | omega | (simp; done) | (simp; omega)))) | with_reducible refine Kp.trans ?_ (by assumption))))))); clear hK K; (try simp only [Act.put, s1, s2, s3]))
  refine wpAnyH_done (by kernel_rfl) ?_ _
  clear hHd
  have bp5 := (((((bp.set 0 (.int .i64 2)).set 1 (.int .i64 n0)).set 2 (.int .i64 0)).set 3 (.int .i64 n1)).set 4 (.int .i64 n2)).drew
  have br5 := (((((br.other (a := ⟨w1.heap.size, 0, none⟩) (by show w.heap.size ≠ w1.heap.size; omega) (.int .i64 2)).other (a := ⟨w1.heap.size, 1, none⟩) (by show w.heap.size ≠ w1.heap.size; omega) (.int .i64 n0)).other (a := ⟨w1.heap.size, 2, none⟩) (by show w.heap.size ≠ w1.heap.size; omega) (.int .i64 0)).other (a := ⟨w1.heap.size, 3, none⟩) (by show w.heap.size ≠ w1.heap.size; omega) (.int .i64 n1)).other (a := ⟨w1.heap.size, 4, none⟩) (by show w.heap.size ≠ w1.heap.size; omega) (.int .i64 n2)).drew
  have kw5 : Kp w (((((w2.setCell ⟨w1.heap.size, 0, none⟩ (.int .i64 2)).setCell ⟨w1.heap.size, 1, none⟩ (.int .i64 n0)).setCell ⟨w1.heap.size, 2, none⟩ (.int .i64 0)).setCell ⟨w1.heap.size, 3, none⟩ (.int .i64 n1)).setCell ⟨w1.heap.size, 4, none⟩ (.int .i64 n2)).drew := (by (repeat (first | with_reducible assumption | with_reducible exact Kp.refl _ | with_reducible refine Kp.drew ?_ | with_reducible refine Kp.drewN ?_ _ | with_reducible refine Kp.alloc ?_ _ | ((with_reducible refine Kp.setCell ?_ ?_ _); rotate_left; (focus (first | omega | (simp; done) | (simp; omega)))) | with_reducible refine Kp.trans ?_ (by assumption))))
  clear f0 z0 f1 z1 f2 z2 f3 z3 f4 z4 d0 d1 d2 d3 d4 br bp
  generalize (((((w2.setCell ⟨w1.heap.size, 0, none⟩ (.int .i64 2)).setCell ⟨w1.heap.size, 1, none⟩ (.int .i64 n0)).setCell ⟨w1.heap.size, 2, none⟩ (.int .i64 0)).setCell ⟨w1.heap.size, 3, none⟩ (.int .i64 n1)).setCell ⟨w1.heap.size, 4, none⟩ (.int .i64 n2)).drew = w5 at bp5 br5 kw5 ⊢
  have z0 := bp5.cell 0 rfl
  have z1 := bp5.cell 1 rfl
  have z2 := bp5.cell 2 rfl
  have z3 := bp5.cell 3 rfl
  have z4 := bp5.cell 4 rfl
  have f0 := br5.free 0
  have y0 := br5.cell 0 rfl
  have f1 := br5.free 1
  have y1 := br5.cell 1 rfl
  have f2 := br5.free 2
  have y2 := br5.cell 2 rfl
  have f3 := br5.free 3
  have y3 := br5.cell 3 rfl
  have f4 := br5.free 4
  have y4 := br5.cell 4 rfl
  have f5 := br5.free 5
  have y5 := br5.cell 5 rfl
  go_wp2_with fail
  refine (CP.out _).mono ?_
  rintro e w6 ⟨rfl, k6⟩
  have kw6 := kw5.trans k6
  have br6 := br5.kp k6
  have bp6 := bp5.kp k6
  clear z0 z1 z2 z3 z4 f0 f1 f2 f3 f4 f5 y0 y1 y2 y3 y4 y5 k6 bp5 br5 kw5
  have z0 := bp6.cell 0 rfl
  have z1 := bp6.cell 1 rfl
  have z2 := bp6.cell 2 rfl
  have z3 := bp6.cell 3 rfl
  have z4 := bp6.cell 4 rfl
  have f0 := br6.free 0
  have y0 := br6.cell 0 rfl
  have f1 := br6.free 1
  have y1 := br6.cell 1 rfl
  have f2 := br6.free 2
  have y2 := br6.cell 2 rfl
  have f3 := br6.free 3
  have y3 := br6.cell 3 rfl
  have f4 := br6.free 4
  have y4 := br6.cell 4 rfl
  have f5 := br6.free 5
  have y5 := br6.cell 5 rfl
  by_cases hts : T = s
  · have t0 : (T == s) = true := beq_iff_eq.2 hts
    have HTS := Lib.hid hts
    clear hts
    go_wp2_with fail
    have zz := ((((((br6.set 0 (.int .i64 2)).set 1 (.int .i64 n0)).set 2 (.int .i64 0)).set 3 (.int .i64 n1)).set 4 (.int .i64 n2)).set 5 (.bool true))
    have x0 := zz.cell 0 rfl
    have x1 := zz.cell 1 rfl
    have x2 := zz.cell 2 rfl
    have x3 := zz.cell 3 rfl
    have x4 := zz.cell 4 rfl
    have x5 := zz.cell 5 rfl
    clear y0 y1 y2 y3 y4 y5
    refine bodyPost_ret (v := .agg #[.int .i64 2, .int .i64 n0, .int .i64 0, .int .i64 n1, .int .i64 n2, .bool true]) (by simp [results, Tryd.results11, go_sem, x0, x1, x2, x3, x4, x5]) rfl ?_
    exact ⟨by first | rfl | (rw [if_pos HTS.out]; rfl), (by (repeat (first | with_reducible assumption | with_reducible exact Kp.refl _ | with_reducible refine Kp.drew ?_ | with_reducible refine Kp.drewN ?_ _ | with_reducible refine Kp.alloc ?_ _ | ((with_reducible refine Kp.setCell ?_ ?_ _); rotate_left; (focus (first | omega | (simp; done) | (simp; omega)))) | with_reducible refine Kp.trans ?_ (by assumption))))⟩
  · have t0 : (T == s) = false := beq_eq_false_iff_ne.2 hts
    have HTS := Lib.hid hts
    clear hts
    go_wp2_with fail
    have zz := ((((((br6.set 0 (.int .i64 0)).set 1 (.int .i64 0)).set 2 (.int .i64 0)).set 3 (.int .i64 0)).set 4 (.int .i64 0)).set 5 (.bool false))
    have x0 := zz.cell 0 rfl
    have x1 := zz.cell 1 rfl
    have x2 := zz.cell 2 rfl
    have x3 := zz.cell 3 rfl
    have x4 := zz.cell 4 rfl
    have x5 := zz.cell 5 rfl
    clear y0 y1 y2 y3 y4 y5
    refine bodyPost_ret (v := .agg #[.int .i64 0, .int .i64 0, .int .i64 0, .int .i64 0, .int .i64 0, .bool false]) (by simp [results, Tryd.results11, go_sem, x0, x1, x2, x3, x4, x5]) rfl ?_
    exact ⟨by first | rfl | (rw [if_neg HTS.out]; rfl), (by (repeat (first | with_reducible assumption | with_reducible exact Kp.refl _ | with_reducible refine Kp.drew ?_ | with_reducible refine Kp.drewN ?_ _ | with_reducible refine Kp.alloc ?_ _ | ((with_reducible refine Kp.setCell ?_ ?_ _); rotate_left; (focus (first | omega | (simp; done) | (simp; omega)))) | with_reducible refine Kp.trans ?_ (by assumption))))⟩
set_option maxRecDepth 100000 in
set_option maxHeartbeats 8000000 in
theorem refPut51_Rule (s : List UInt8) (ws : List (List UInt8)) (hw : splitW s = wRule :: ws) (n0 n1 n2 n3 n4 : Int) (hn : (numsL s)[0]? = some n0 ∧ (numsL s)[1]? = some n1 ∧ (numsL s)[2]? = some n2 ∧ (numsL s)[3]? = some n3 ∧ (numsL s)[4]? = some n4) (hp : Put.ok ⟨3, 0, 0, n0, n1⟩) (hs : s.length ≤ 10000) (w : World) :
    Calls Tryd.prog 11 #[sv s] w fun e w' => e = .returned (if putL ⟨3, 0, 0, n0, n1⟩ = s then gotV ⟨3, 0, 0, n0, n1⟩ true else gotV ⟨0, 0, 0, 0, 0⟩ false) ∧ Kp w w' := by
  have CN := Lib.hid (fun w' => nums_any s hs w')
  have CW := Lib.hid (fun w' => words_any s hs w')
  rw [hw] at CW
  have HN := Lib.hid hn
  have CP := Lib.hid (fun w' => refPut_any ⟨3, 0, 0, n0, n1⟩ hp w')
  obtain ⟨T, hT⟩ : ∃ T, putL ⟨3, 0, 0, n0, n1⟩ = T := ⟨_, rfl⟩
  rw [hT] at CP ⊢
  have h6 := numsL_len s
  clear hn hp hT hw
  go_enter Tryd.func11, Tryd.ntmps11
  go_wp2_with fail
  refine (CN.out _).mono ?_
  rintro e w1 ⟨v1, rfl, hr1, k1⟩
  obtain ⟨a1, c1, rfl, sl1⟩ := hr1.sl (fun _ => rfl)
  have m1 := sl1.2.1
  have m2 := sl1.2.2.1
  unfold maxLen at m2
  rcases sl1.2.2.2 with e | ⟨g, o, rfl, hg, r1⟩
  · rw [e] at h6; simp at h6
  have d0 := r1 0 _ HN.out.1 0 _ rfl
  have d1 := r1 1 _ HN.out.2.1 0 _ rfl
  have d2 := r1 2 _ HN.out.2.2.1 0 _ rfl
  have d3 := r1 3 _ HN.out.2.2.2.1 0 _ rfl
  have d4 := r1 4 _ HN.out.2.2.2.2 0 _ rfl
  simp only [Nat.add_zero, Nat.mul_one] at d0 d1 d2 d3 d4
  have br1 : Blk w1 w.heap.size [.int .i64 0, .int .i64 0, .int .i64 0, .int .i64 0, .int .i64 0, .bool false] 37 := Blk.kp (by (repeat (first | with_reducible assumption | ((with_reducible refine Blk.newL ?_ ?_); (focus (first | (simp; done) | omega)); rfl) | with_reducible refine Blk.drew ?_ | with_reducible refine Blk.drewN ?_ _ | with_reducible refine Blk.alloc ?_ _ | ((with_reducible refine Blk.other ?_ ?_ _); rotate_left; (focus (first | with_reducible assumption | omega | (simp; done) | (simp; omega))))))) k1
  have kw1 : Kp w w1 := ((by (repeat (first | with_reducible assumption | with_reducible exact Kp.refl _ | with_reducible refine Kp.drew ?_ | with_reducible refine Kp.drewN ?_ _ | with_reducible refine Kp.alloc ?_ _ | ((with_reducible refine Kp.setCell ?_ ?_ _); rotate_left; (focus (first | omega | (simp; done) | (simp; omega)))) | with_reducible refine Kp.trans ?_ (by assumption)))) : Kp w _).trans k1
  obtain ⟨L, hL⟩ : ∃ L, (numsL s).length = L := ⟨_, rfl⟩
  rw [hL] at h6 m1 ⊢
  have l0 : 0 < L := by omega
  have l1 : (1 : Int) < (L : Int) := by omega
  have l2 : (2 : Int) < (L : Int) := by omega
  have l3 : (3 : Int) < (L : Int) := by omega
  have l4 : (4 : Int) < (L : Int) := by omega
  clear hr1 sl1 r1 k1 hL HN CN
  go_wp2_with fail
  refine (CW.out _).mono ?_
  rintro e w2 ⟨v2, rfl, hr2, k2⟩
  obtain ⟨a2, c2, rfl, sl2⟩ := hr2.sl (fun _ => rfl)
  have m3 := sl2.2.1
  have m4 := sl2.2.2.1
  unfold maxLen at m4
  rcases sl2.2.2.2 with e | ⟨g2', o2, rfl, hg2, r2⟩
  · cases e
  have q0 := r2 0 _ rfl 0 _ rfl
  simp only [Nat.add_zero, Nat.mul_one] at q0
  have kw2 : Kp w1 w2 := ((by (repeat (first | with_reducible assumption | with_reducible exact Kp.refl _ | with_reducible refine Kp.drew ?_ | with_reducible refine Kp.drewN ?_ _ | with_reducible refine Kp.alloc ?_ _ | ((with_reducible refine Kp.setCell ?_ ?_ _); rotate_left; (focus (first | omega | (simp; done) | (simp; omega)))) | with_reducible refine Kp.trans ?_ (by assumption)))) : Kp w1 _).trans k2
  have br := br1.kp kw2
  have bp : Blk w2 w1.heap.size [.int .i64 0, .int .i64 0, .int .i64 0, .int .i64 0, .int .i64 0] 33 := Blk.kp (by (repeat (first | with_reducible assumption | ((with_reducible refine Blk.newL ?_ ?_); (focus (first | (simp; done) | omega)); rfl) | with_reducible refine Blk.drew ?_ | with_reducible refine Blk.drewN ?_ _ | with_reducible refine Blk.alloc ?_ _ | ((with_reducible refine Blk.other ?_ ?_ _); rotate_left; (focus (first | with_reducible assumption | omega | (simp; done) | (simp; omega))))))) k2
  have brl := br1.lt
  clear hr2 sl2 r2 k2 br1 CW
  have f0 := bp.free 0
  have z0 := bp.cell 0 rfl
  have f1 := bp.free 1
  have z1 := bp.cell 1 rfl
  have f2 := bp.free 2
  have z2 := bp.cell 2 rfl
  have f3 := bp.free 3
  have z3 := bp.cell 3 rfl
  have f4 := bp.free 4
  have z4 := bp.cell 4 rfl
  go_wp2_with fail
  (refine wp_region_held_drew (S := (fun w' => (∀ b o, b < w1.heap.size → w'.cell? ⟨b, o, none⟩ = w1.cell? ⟨b, o, none⟩) ∧ Kp w1 w')) (by kernel_rfl) ?_ (fun hHd => ?_); (focus ((try dsimp only); (first | with_reducible assumption | with_reducible exact held_start _ | with_reducible exact held_next (by assumption) (by assumption) | with_reducible exact held_alloc (by assumption) _ | with_reducible exact held_drew (by assumption) | ((with_reducible refine held_kp ?_); (repeat (first | with_reducible assumption | with_reducible exact Kp.refl _ | with_reducible refine Kp.drew ?_ | with_reducible refine Kp.drewN ?_ _ | with_reducible refine Kp.alloc ?_ _ | ((with_reducible refine Kp.setCell ?_ ?_ _); rotate_left; (focus (first | omega | (simp; done) | (simp; omega)))) | with_reducible refine Kp.trans ?_ (by assumption))))))))
  (refine takeH (i := 0) (oi := ?o286) (v := ?v286) ?h286 (by kernel_rfl) ?q286 (Or.inl ⟨?w286, ?y286⟩) (by assumption) ?r286; (case h286 => ((simp only [g1, g3]); rfl)); (case q286 => exact fun _ _ _ h => h); (case w286 => rfl); (case y286 => (intro w' hSw; (try dsimp only at hSw); go_simp; (try with_reducible rfl))); (try simp only [Act.put, s1, s2, s3]))
  (refine takeH (i := 1) (oi := ?o287) (v := ?v287) ?h287 (by kernel_rfl) ?q287 (Or.inl ⟨?w287, ?y287⟩) (by assumption) ?r287; (case h287 => ((simp only [g1, g2, g3]); rfl)); (case q287 => exact fun _ _ _ h => h); (case w287 => rfl); (case y287 => (intro w' hSw; (try dsimp only at hSw); go_simp; (try with_reducible rfl))); (try simp only [Act.put, s1, s2, s3]))
  (refine takeH (i := 2) (oi := ?o288) (v := ?v288) ?h288 (by kernel_rfl) ?q288 (Or.inl ⟨?w288, ?y288⟩) (by assumption) ?r288; (case h288 => ((simp only [g1, g2, g3]); rfl)); (case q288 => exact fun _ _ _ h => h); (case w288 => rfl); (case y288 => (intro w' hSw; (try dsimp only at hSw); go_simp; (try with_reducible rfl))); (try simp only [Act.put, s1, s2, s3]))
  (refine takeH (i := 3) (oi := ?o289) (v := ?v289) ?h289 (by kernel_rfl) ?q289 (Or.inl ⟨?w289, ?y289⟩) (by assumption) ?r289; (case h289 => ((simp only [g1, g2, g3]); rfl)); (case q289 => exact fun _ _ _ h => h); (case w289 => rfl); (case y289 => (intro w' hSw; (try dsimp only at hSw); go_simp; (try with_reducible rfl))); (try simp only [Act.put, s1, s2, s3]))
  (refine takeH (i := 4) (oi := ?o290) (v := ?v290) ?h290 (by kernel_rfl) ?q290 (Or.inl ⟨?w290, ?y290⟩) (by assumption) ?r290; (case h290 => ((simp only [g1, g2, g3]); rfl)); (case q290 => exact fun _ _ _ h => h); (case w290 => rfl); (case y290 => (intro w' hSw; (try dsimp only at hSw); go_simp; (try with_reducible rfl))); (try simp only [Act.put, s1, s2, s3]))
  (refine takeH (i := 5) (oi := ?o291) (v := ?v291) ?h291 (by kernel_rfl) ?q291 (Or.inl ⟨?w291, ?y291⟩) (by assumption) ?r291; (case h291 => ((simp only [g1, g2, g3]); rfl)); (case q291 => exact fun _ _ _ h => h); (case w291 => rfl); (case y291 => (intro w' hSw; (try dsimp only at hSw); go_simp; (try with_reducible rfl))); (try simp only [Act.put, s1, s2, s3]))
  (refine takeH (i := 6) (oi := ?o292) (v := ?v292) ?h292 (by kernel_rfl) ?q292 (Or.inl ⟨?w292, ?y292⟩) (by assumption) ?r292; (case h292 => ((simp only [g1, g2, g3]); rfl)); (case q292 => exact fun _ _ _ h => h); (case w292 => rfl); (case y292 => (intro w' hSw; (try dsimp only at hSw); go_simp; (try with_reducible rfl))); (try simp only [Act.put, s1, s2, s3]))
  (refine wpAnyH_ready (rs := [7]) (by kernel_rfl) (by simp) ?_; refine AllReadyH.cons (o := ?o293) ?h293 (fun K hK => ?s293) AllReadyH.nil; (case h293 => (first | ((simp only [g1, g2, g3]); rfl) | rfl)); go_simp; (try dsimp only); refine hK.out _ _ ?_ (fun hHd => ?_); (focus ((try dsimp only); (first | with_reducible assumption | with_reducible exact held_start _ | with_reducible exact held_next (by assumption) (by assumption) | with_reducible exact held_alloc (by assumption) _ | with_reducible exact held_drew (by assumption) | ((with_reducible refine held_kp ?_); (repeat (first | with_reducible assumption | with_reducible exact Kp.refl _ | with_reducible refine Kp.drew ?_ | with_reducible refine Kp.drewN ?_ _ | with_reducible refine Kp.alloc ?_ _ | ((with_reducible refine Kp.setCell ?_ ?_ _); rotate_left; (focus (first | omega | (simp; done) | (simp; omega)))) | with_reducible refine Kp.trans ?_ (by assumption))))))); clear hK K; (try simp only [Act.put, s1, s2, s3]))
  refine wpAnyH_done (by kernel_rfl) ?_ _
  clear hHd
  have bp5 := (((((bp.set 0 (.int .i64 3)).set 1 (.int .i64 0)).set 2 (.int .i64 0)).set 3 (.int .i64 n0)).set 4 (.int .i64 n1)).drew
  have br5 := (((((br.other (a := ⟨w1.heap.size, 0, none⟩) (by show w.heap.size ≠ w1.heap.size; omega) (.int .i64 3)).other (a := ⟨w1.heap.size, 1, none⟩) (by show w.heap.size ≠ w1.heap.size; omega) (.int .i64 0)).other (a := ⟨w1.heap.size, 2, none⟩) (by show w.heap.size ≠ w1.heap.size; omega) (.int .i64 0)).other (a := ⟨w1.heap.size, 3, none⟩) (by show w.heap.size ≠ w1.heap.size; omega) (.int .i64 n0)).other (a := ⟨w1.heap.size, 4, none⟩) (by show w.heap.size ≠ w1.heap.size; omega) (.int .i64 n1)).drew
  have kw5 : Kp w (((((w2.setCell ⟨w1.heap.size, 0, none⟩ (.int .i64 3)).setCell ⟨w1.heap.size, 1, none⟩ (.int .i64 0)).setCell ⟨w1.heap.size, 2, none⟩ (.int .i64 0)).setCell ⟨w1.heap.size, 3, none⟩ (.int .i64 n0)).setCell ⟨w1.heap.size, 4, none⟩ (.int .i64 n1)).drew := (by (repeat (first | with_reducible assumption | with_reducible exact Kp.refl _ | with_reducible refine Kp.drew ?_ | with_reducible refine Kp.drewN ?_ _ | with_reducible refine Kp.alloc ?_ _ | ((with_reducible refine Kp.setCell ?_ ?_ _); rotate_left; (focus (first | omega | (simp; done) | (simp; omega)))) | with_reducible refine Kp.trans ?_ (by assumption))))
  clear f0 z0 f1 z1 f2 z2 f3 z3 f4 z4 d0 d1 d2 d3 d4 br bp
  generalize (((((w2.setCell ⟨w1.heap.size, 0, none⟩ (.int .i64 3)).setCell ⟨w1.heap.size, 1, none⟩ (.int .i64 0)).setCell ⟨w1.heap.size, 2, none⟩ (.int .i64 0)).setCell ⟨w1.heap.size, 3, none⟩ (.int .i64 n0)).setCell ⟨w1.heap.size, 4, none⟩ (.int .i64 n1)).drew = w5 at bp5 br5 kw5 ⊢
  have z0 := bp5.cell 0 rfl
  have z1 := bp5.cell 1 rfl
  have z2 := bp5.cell 2 rfl
  have z3 := bp5.cell 3 rfl
  have z4 := bp5.cell 4 rfl
  have f0 := br5.free 0
  have y0 := br5.cell 0 rfl
  have f1 := br5.free 1
  have y1 := br5.cell 1 rfl
  have f2 := br5.free 2
  have y2 := br5.cell 2 rfl
  have f3 := br5.free 3
  have y3 := br5.cell 3 rfl
  have f4 := br5.free 4
  have y4 := br5.cell 4 rfl
  have f5 := br5.free 5
  have y5 := br5.cell 5 rfl
  go_wp2_with fail
  refine (CP.out _).mono ?_
  rintro e w6 ⟨rfl, k6⟩
  have kw6 := kw5.trans k6
  have br6 := br5.kp k6
  have bp6 := bp5.kp k6
  clear z0 z1 z2 z3 z4 f0 f1 f2 f3 f4 f5 y0 y1 y2 y3 y4 y5 k6 bp5 br5 kw5
  have z0 := bp6.cell 0 rfl
  have z1 := bp6.cell 1 rfl
  have z2 := bp6.cell 2 rfl
  have z3 := bp6.cell 3 rfl
  have z4 := bp6.cell 4 rfl
  have f0 := br6.free 0
  have y0 := br6.cell 0 rfl
  have f1 := br6.free 1
  have y1 := br6.cell 1 rfl
  have f2 := br6.free 2
  have y2 := br6.cell 2 rfl
  have f3 := br6.free 3
  have y3 := br6.cell 3 rfl
  have f4 := br6.free 4
  have y4 := br6.cell 4 rfl
  have f5 := br6.free 5
  have y5 := br6.cell 5 rfl
  by_cases hts : T = s
  · have t0 : (T == s) = true := beq_iff_eq.2 hts
    have HTS := Lib.hid hts
    clear hts
    go_wp2_with fail
    have zz := ((((((br6.set 0 (.int .i64 3)).set 1 (.int .i64 0)).set 2 (.int .i64 0)).set 3 (.int .i64 n0)).set 4 (.int .i64 n1)).set 5 (.bool true))
    have x0 := zz.cell 0 rfl
    have x1 := zz.cell 1 rfl
    have x2 := zz.cell 2 rfl
    have x3 := zz.cell 3 rfl
    have x4 := zz.cell 4 rfl
    have x5 := zz.cell 5 rfl
    clear y0 y1 y2 y3 y4 y5
    refine bodyPost_ret (v := .agg #[.int .i64 3, .int .i64 0, .int .i64 0, .int .i64 n0, .int .i64 n1, .bool true]) (by simp [results, Tryd.results11, go_sem, x0, x1, x2, x3, x4, x5]) rfl ?_
    exact ⟨by first | rfl | (rw [if_pos HTS.out]; rfl), (by (repeat (first | with_reducible assumption | with_reducible exact Kp.refl _ | with_reducible refine Kp.drew ?_ | with_reducible refine Kp.drewN ?_ _ | with_reducible refine Kp.alloc ?_ _ | ((with_reducible refine Kp.setCell ?_ ?_ _); rotate_left; (focus (first | omega | (simp; done) | (simp; omega)))) | with_reducible refine Kp.trans ?_ (by assumption))))⟩
  · have t0 : (T == s) = false := beq_eq_false_iff_ne.2 hts
    have HTS := Lib.hid hts
    clear hts
    go_wp2_with fail
    have zz := ((((((br6.set 0 (.int .i64 0)).set 1 (.int .i64 0)).set 2 (.int .i64 0)).set 3 (.int .i64 0)).set 4 (.int .i64 0)).set 5 (.bool false))
    have x0 := zz.cell 0 rfl
    have x1 := zz.cell 1 rfl
    have x2 := zz.cell 2 rfl
    have x3 := zz.cell 3 rfl
    have x4 := zz.cell 4 rfl
    have x5 := zz.cell 5 rfl
    clear y0 y1 y2 y3 y4 y5
    refine bodyPost_ret (v := .agg #[.int .i64 0, .int .i64 0, .int .i64 0, .int .i64 0, .int .i64 0, .bool false]) (by simp [results, Tryd.results11, go_sem, x0, x1, x2, x3, x4, x5]) rfl ?_
    exact ⟨by first | rfl | (rw [if_neg HTS.out]; rfl), (by (repeat (first | with_reducible assumption | with_reducible exact Kp.refl _ | with_reducible refine Kp.drew ?_ | with_reducible refine Kp.drewN ?_ _ | with_reducible refine Kp.alloc ?_ _ | ((with_reducible refine Kp.setCell ?_ ?_ _); rotate_left; (focus (first | omega | (simp; done) | (simp; omega)))) | with_reducible refine Kp.trans ?_ (by assumption))))⟩
set_option maxRecDepth 100000 in
set_option maxHeartbeats 8000000 in
theorem refPut51_Line (s : List UInt8) (ws : List (List UInt8)) (hw : splitW s = wLine :: ws) (n0 n1 n2 n3 n4 : Int) (hn : (numsL s)[0]? = some n0 ∧ (numsL s)[1]? = some n1 ∧ (numsL s)[2]? = some n2 ∧ (numsL s)[3]? = some n3 ∧ (numsL s)[4]? = some n4) (hp : Put.ok ⟨4, n0, n1, n2, n3⟩) (hs : s.length ≤ 10000) (w : World) :
    Calls Tryd.prog 11 #[sv s] w fun e w' => e = .returned (if putL ⟨4, n0, n1, n2, n3⟩ = s then gotV ⟨4, n0, n1, n2, n3⟩ true else gotV ⟨0, 0, 0, 0, 0⟩ false) ∧ Kp w w' := by
  have CN := Lib.hid (fun w' => nums_any s hs w')
  have CW := Lib.hid (fun w' => words_any s hs w')
  rw [hw] at CW
  have HN := Lib.hid hn
  have CP := Lib.hid (fun w' => refPut_any ⟨4, n0, n1, n2, n3⟩ hp w')
  obtain ⟨T, hT⟩ : ∃ T, putL ⟨4, n0, n1, n2, n3⟩ = T := ⟨_, rfl⟩
  rw [hT] at CP ⊢
  have h6 := numsL_len s
  clear hn hp hT hw
  go_enter Tryd.func11, Tryd.ntmps11
  go_wp2_with fail
  refine (CN.out _).mono ?_
  rintro e w1 ⟨v1, rfl, hr1, k1⟩
  obtain ⟨a1, c1, rfl, sl1⟩ := hr1.sl (fun _ => rfl)
  have m1 := sl1.2.1
  have m2 := sl1.2.2.1
  unfold maxLen at m2
  rcases sl1.2.2.2 with e | ⟨g, o, rfl, hg, r1⟩
  · rw [e] at h6; simp at h6
  have d0 := r1 0 _ HN.out.1 0 _ rfl
  have d1 := r1 1 _ HN.out.2.1 0 _ rfl
  have d2 := r1 2 _ HN.out.2.2.1 0 _ rfl
  have d3 := r1 3 _ HN.out.2.2.2.1 0 _ rfl
  have d4 := r1 4 _ HN.out.2.2.2.2 0 _ rfl
  simp only [Nat.add_zero, Nat.mul_one] at d0 d1 d2 d3 d4
  have br1 : Blk w1 w.heap.size [.int .i64 0, .int .i64 0, .int .i64 0, .int .i64 0, .int .i64 0, .bool false] 37 := Blk.kp (by (repeat (first | with_reducible assumption | ((with_reducible refine Blk.newL ?_ ?_); (focus (first | (simp; done) | omega)); rfl) | with_reducible refine Blk.drew ?_ | with_reducible refine Blk.drewN ?_ _ | with_reducible refine Blk.alloc ?_ _ | ((with_reducible refine Blk.other ?_ ?_ _); rotate_left; (focus (first | with_reducible assumption | omega | (simp; done) | (simp; omega))))))) k1
  have kw1 : Kp w w1 := ((by (repeat (first | with_reducible assumption | with_reducible exact Kp.refl _ | with_reducible refine Kp.drew ?_ | with_reducible refine Kp.drewN ?_ _ | with_reducible refine Kp.alloc ?_ _ | ((with_reducible refine Kp.setCell ?_ ?_ _); rotate_left; (focus (first | omega | (simp; done) | (simp; omega)))) | with_reducible refine Kp.trans ?_ (by assumption)))) : Kp w _).trans k1
  obtain ⟨L, hL⟩ : ∃ L, (numsL s).length = L := ⟨_, rfl⟩
  rw [hL] at h6 m1 ⊢
  have l0 : 0 < L := by omega
  have l1 : (1 : Int) < (L : Int) := by omega
  have l2 : (2 : Int) < (L : Int) := by omega
  have l3 : (3 : Int) < (L : Int) := by omega
  have l4 : (4 : Int) < (L : Int) := by omega
  clear hr1 sl1 r1 k1 hL HN CN
  go_wp2_with fail
  refine (CW.out _).mono ?_
  rintro e w2 ⟨v2, rfl, hr2, k2⟩
  obtain ⟨a2, c2, rfl, sl2⟩ := hr2.sl (fun _ => rfl)
  have m3 := sl2.2.1
  have m4 := sl2.2.2.1
  unfold maxLen at m4
  rcases sl2.2.2.2 with e | ⟨g2', o2, rfl, hg2, r2⟩
  · cases e
  have q0 := r2 0 _ rfl 0 _ rfl
  simp only [Nat.add_zero, Nat.mul_one] at q0
  have kw2 : Kp w1 w2 := ((by (repeat (first | with_reducible assumption | with_reducible exact Kp.refl _ | with_reducible refine Kp.drew ?_ | with_reducible refine Kp.drewN ?_ _ | with_reducible refine Kp.alloc ?_ _ | ((with_reducible refine Kp.setCell ?_ ?_ _); rotate_left; (focus (first | omega | (simp; done) | (simp; omega)))) | with_reducible refine Kp.trans ?_ (by assumption)))) : Kp w1 _).trans k2
  have br := br1.kp kw2
  have bp : Blk w2 w1.heap.size [.int .i64 0, .int .i64 0, .int .i64 0, .int .i64 0, .int .i64 0] 33 := Blk.kp (by (repeat (first | with_reducible assumption | ((with_reducible refine Blk.newL ?_ ?_); (focus (first | (simp; done) | omega)); rfl) | with_reducible refine Blk.drew ?_ | with_reducible refine Blk.drewN ?_ _ | with_reducible refine Blk.alloc ?_ _ | ((with_reducible refine Blk.other ?_ ?_ _); rotate_left; (focus (first | with_reducible assumption | omega | (simp; done) | (simp; omega))))))) k2
  have brl := br1.lt
  clear hr2 sl2 r2 k2 br1 CW
  have f0 := bp.free 0
  have z0 := bp.cell 0 rfl
  have f1 := bp.free 1
  have z1 := bp.cell 1 rfl
  have f2 := bp.free 2
  have z2 := bp.cell 2 rfl
  have f3 := bp.free 3
  have z3 := bp.cell 3 rfl
  have f4 := bp.free 4
  have z4 := bp.cell 4 rfl
  go_wp2_with fail
  (refine wp_region_held_drew (S := (fun w' => (∀ b o, b < w1.heap.size → w'.cell? ⟨b, o, none⟩ = w1.cell? ⟨b, o, none⟩) ∧ Kp w1 w')) (by kernel_rfl) ?_ (fun hHd => ?_); (focus ((try dsimp only); (first | with_reducible assumption | with_reducible exact held_start _ | with_reducible exact held_next (by assumption) (by assumption) | with_reducible exact held_alloc (by assumption) _ | with_reducible exact held_drew (by assumption) | ((with_reducible refine held_kp ?_); (repeat (first | with_reducible assumption | with_reducible exact Kp.refl _ | with_reducible refine Kp.drew ?_ | with_reducible refine Kp.drewN ?_ _ | with_reducible refine Kp.alloc ?_ _ | ((with_reducible refine Kp.setCell ?_ ?_ _); rotate_left; (focus (first | omega | (simp; done) | (simp; omega)))) | with_reducible refine Kp.trans ?_ (by assumption))))))))
  (refine takeH (i := 0) (oi := ?o294) (v := ?v294) ?h294 (by kernel_rfl) ?q294 (Or.inl ⟨?w294, ?y294⟩) (by assumption) ?r294; (case h294 => ((simp only [g1, g3]); rfl)); (case q294 => exact fun _ _ _ h => h); (case w294 => rfl); (case y294 => (intro w' hSw; (try dsimp only at hSw); go_simp; (try with_reducible rfl))); (try simp only [Act.put, s1, s2, s3]))
  (refine takeH (i := 1) (oi := ?o295) (v := ?v295) ?h295 (by kernel_rfl) ?q295 (Or.inl ⟨?w295, ?y295⟩) (by assumption) ?r295; (case h295 => ((simp only [g1, g2, g3]); rfl)); (case q295 => exact fun _ _ _ h => h); (case w295 => rfl); (case y295 => (intro w' hSw; (try dsimp only at hSw); go_simp; (try with_reducible rfl))); (try simp only [Act.put, s1, s2, s3]))
  (refine takeH (i := 2) (oi := ?o296) (v := ?v296) ?h296 (by kernel_rfl) ?q296 (Or.inl ⟨?w296, ?y296⟩) (by assumption) ?r296; (case h296 => ((simp only [g1, g2, g3]); rfl)); (case q296 => exact fun _ _ _ h => h); (case w296 => rfl); (case y296 => (intro w' hSw; (try dsimp only at hSw); go_simp; (try with_reducible rfl))); (try simp only [Act.put, s1, s2, s3]))
  (refine takeH (i := 3) (oi := ?o297) (v := ?v297) ?h297 (by kernel_rfl) ?q297 (Or.inl ⟨?w297, ?y297⟩) (by assumption) ?r297; (case h297 => ((simp only [g1, g2, g3]); rfl)); (case q297 => exact fun _ _ _ h => h); (case w297 => rfl); (case y297 => (intro w' hSw; (try dsimp only at hSw); go_simp; (try with_reducible rfl))); (try simp only [Act.put, s1, s2, s3]))
  (refine takeH (i := 4) (oi := ?o298) (v := ?v298) ?h298 (by kernel_rfl) ?q298 (Or.inl ⟨?w298, ?y298⟩) (by assumption) ?r298; (case h298 => ((simp only [g1, g2, g3]); rfl)); (case q298 => exact fun _ _ _ h => h); (case w298 => rfl); (case y298 => (intro w' hSw; (try dsimp only at hSw); go_simp; (try with_reducible rfl))); (try simp only [Act.put, s1, s2, s3]))
  (refine takeH (i := 5) (oi := ?o299) (v := ?v299) ?h299 (by kernel_rfl) ?q299 (Or.inl ⟨?w299, ?y299⟩) (by assumption) ?r299; (case h299 => ((simp only [g1, g2, g3]); rfl)); (case q299 => exact fun _ _ _ h => h); (case w299 => rfl); (case y299 => (intro w' hSw; (try dsimp only at hSw); go_simp; (try with_reducible rfl))); (try simp only [Act.put, s1, s2, s3]))
  (refine takeH (i := 6) (oi := ?o300) (v := ?v300) ?h300 (by kernel_rfl) ?q300 (Or.inl ⟨?w300, ?y300⟩) (by assumption) ?r300; (case h300 => ((simp only [g1, g2, g3]); rfl)); (case q300 => exact fun _ _ _ h => h); (case w300 => rfl); (case y300 => (intro w' hSw; (try dsimp only at hSw); go_simp; (try with_reducible rfl))); (try simp only [Act.put, s1, s2, s3]))
  (refine takeH (i := 7) (oi := ?o301) (v := ?v301) ?h301 (by kernel_rfl) ?q301 (Or.inl ⟨?w301, ?y301⟩) (by assumption) ?r301; (case h301 => ((simp only [g1, g2, g3]); rfl)); (case q301 => exact fun _ _ _ h => h); (case w301 => rfl); (case y301 => (intro w' hSw; (try dsimp only at hSw); go_simp; (try with_reducible rfl))); (try simp only [Act.put, s1, s2, s3]))
  (refine takeH (i := 8) (oi := ?o302) (v := ?v302) ?h302 (by kernel_rfl) ?q302 (Or.inl ⟨?w302, ?y302⟩) (by assumption) ?r302; (case h302 => ((simp only [g1, g2, g3]); rfl)); (case q302 => exact fun _ _ _ h => h); (case w302 => rfl); (case y302 => (intro w' hSw; (try dsimp only at hSw); go_simp; (try with_reducible rfl))); (try simp only [Act.put, s1, s2, s3]))
  (refine takeH (i := 9) (oi := ?o303) (v := ?v303) ?h303 (by kernel_rfl) ?q303 (Or.inl ⟨?w303, ?y303⟩) (by assumption) ?r303; (case h303 => ((simp only [g1, g2, g3]); rfl)); (case q303 => exact fun _ _ _ h => h); (case w303 => rfl); (case y303 => (intro w' hSw; (try dsimp only at hSw); go_simp; (try with_reducible rfl))); (try simp only [Act.put, s1, s2, s3]))
  (refine takeH (i := 10) (oi := ?o304) (v := ?v304) ?h304 (by kernel_rfl) ?q304 (Or.inl ⟨?w304, ?y304⟩) (by assumption) ?r304; (case h304 => ((simp only [g1, g2, g3]); rfl)); (case q304 => exact fun _ _ _ h => h); (case w304 => rfl); (case y304 => (intro w' hSw; (try dsimp only at hSw); go_simp; (try with_reducible rfl))); (try simp only [Act.put, s1, s2, s3]))
  (refine takeH (i := 11) (oi := ?o305) (v := ?v305) ?h305 (by kernel_rfl) ?q305 (Or.inl ⟨?w305, ?y305⟩) (by assumption) ?r305; (case h305 => ((simp only [g1, g2, g3]); rfl)); (case q305 => exact fun _ _ _ h => h); (case w305 => rfl); (case y305 => (intro w' hSw; (try dsimp only at hSw); go_simp; (try with_reducible rfl))); (try simp only [Act.put, s1, s2, s3]))
  (refine takeH (i := 12) (oi := ?o306) (v := ?v306) ?h306 (by kernel_rfl) ?q306 (Or.inl ⟨?w306, ?y306⟩) (by assumption) ?r306; (case h306 => ((simp only [g1, g2, g3]); rfl)); (case q306 => exact fun _ _ _ h => h); (case w306 => rfl); (case y306 => (intro w' hSw; (try dsimp only at hSw); go_simp; (try with_reducible rfl))); (try simp only [Act.put, s1, s2, s3]))
  (refine wpAnyH_ready (rs := [13]) (by kernel_rfl) (by simp) ?_; refine AllReadyH.cons (o := ?o307) ?h307 (fun K hK => ?s307) AllReadyH.nil; (case h307 => (first | ((simp only [g1, g2, g3]); rfl) | rfl)); go_simp; (try dsimp only); refine hK.out _ _ ?_ (fun hHd => ?_); (focus ((try dsimp only); (first | with_reducible assumption | with_reducible exact held_start _ | with_reducible exact held_next (by assumption) (by assumption) | with_reducible exact held_alloc (by assumption) _ | with_reducible exact held_drew (by assumption) | ((with_reducible refine held_kp ?_); (repeat (first | with_reducible assumption | with_reducible exact Kp.refl _ | with_reducible refine Kp.drew ?_ | with_reducible refine Kp.drewN ?_ _ | with_reducible refine Kp.alloc ?_ _ | ((with_reducible refine Kp.setCell ?_ ?_ _); rotate_left; (focus (first | omega | (simp; done) | (simp; omega)))) | with_reducible refine Kp.trans ?_ (by assumption))))))); clear hK K; (try simp only [Act.put, s1, s2, s3]))
  refine wpAnyH_done (by kernel_rfl) ?_ _
  clear hHd
  have bp5 := (((((bp.set 0 (.int .i64 4)).set 1 (.int .i64 n0)).set 2 (.int .i64 n1)).set 3 (.int .i64 n2)).set 4 (.int .i64 n3)).drew
  have br5 := (((((br.other (a := ⟨w1.heap.size, 0, none⟩) (by show w.heap.size ≠ w1.heap.size; omega) (.int .i64 4)).other (a := ⟨w1.heap.size, 1, none⟩) (by show w.heap.size ≠ w1.heap.size; omega) (.int .i64 n0)).other (a := ⟨w1.heap.size, 2, none⟩) (by show w.heap.size ≠ w1.heap.size; omega) (.int .i64 n1)).other (a := ⟨w1.heap.size, 3, none⟩) (by show w.heap.size ≠ w1.heap.size; omega) (.int .i64 n2)).other (a := ⟨w1.heap.size, 4, none⟩) (by show w.heap.size ≠ w1.heap.size; omega) (.int .i64 n3)).drew
  have kw5 : Kp w (((((w2.setCell ⟨w1.heap.size, 0, none⟩ (.int .i64 4)).setCell ⟨w1.heap.size, 1, none⟩ (.int .i64 n0)).setCell ⟨w1.heap.size, 2, none⟩ (.int .i64 n1)).setCell ⟨w1.heap.size, 3, none⟩ (.int .i64 n2)).setCell ⟨w1.heap.size, 4, none⟩ (.int .i64 n3)).drew := (by (repeat (first | with_reducible assumption | with_reducible exact Kp.refl _ | with_reducible refine Kp.drew ?_ | with_reducible refine Kp.drewN ?_ _ | with_reducible refine Kp.alloc ?_ _ | ((with_reducible refine Kp.setCell ?_ ?_ _); rotate_left; (focus (first | omega | (simp; done) | (simp; omega)))) | with_reducible refine Kp.trans ?_ (by assumption))))
  clear f0 z0 f1 z1 f2 z2 f3 z3 f4 z4 d0 d1 d2 d3 d4 br bp
  generalize (((((w2.setCell ⟨w1.heap.size, 0, none⟩ (.int .i64 4)).setCell ⟨w1.heap.size, 1, none⟩ (.int .i64 n0)).setCell ⟨w1.heap.size, 2, none⟩ (.int .i64 n1)).setCell ⟨w1.heap.size, 3, none⟩ (.int .i64 n2)).setCell ⟨w1.heap.size, 4, none⟩ (.int .i64 n3)).drew = w5 at bp5 br5 kw5 ⊢
  have z0 := bp5.cell 0 rfl
  have z1 := bp5.cell 1 rfl
  have z2 := bp5.cell 2 rfl
  have z3 := bp5.cell 3 rfl
  have z4 := bp5.cell 4 rfl
  have f0 := br5.free 0
  have y0 := br5.cell 0 rfl
  have f1 := br5.free 1
  have y1 := br5.cell 1 rfl
  have f2 := br5.free 2
  have y2 := br5.cell 2 rfl
  have f3 := br5.free 3
  have y3 := br5.cell 3 rfl
  have f4 := br5.free 4
  have y4 := br5.cell 4 rfl
  have f5 := br5.free 5
  have y5 := br5.cell 5 rfl
  go_wp2_with fail
  refine (CP.out _).mono ?_
  rintro e w6 ⟨rfl, k6⟩
  have kw6 := kw5.trans k6
  have br6 := br5.kp k6
  have bp6 := bp5.kp k6
  clear z0 z1 z2 z3 z4 f0 f1 f2 f3 f4 f5 y0 y1 y2 y3 y4 y5 k6 bp5 br5 kw5
  have z0 := bp6.cell 0 rfl
  have z1 := bp6.cell 1 rfl
  have z2 := bp6.cell 2 rfl
  have z3 := bp6.cell 3 rfl
  have z4 := bp6.cell 4 rfl
  have f0 := br6.free 0
  have y0 := br6.cell 0 rfl
  have f1 := br6.free 1
  have y1 := br6.cell 1 rfl
  have f2 := br6.free 2
  have y2 := br6.cell 2 rfl
  have f3 := br6.free 3
  have y3 := br6.cell 3 rfl
  have f4 := br6.free 4
  have y4 := br6.cell 4 rfl
  have f5 := br6.free 5
  have y5 := br6.cell 5 rfl
  by_cases hts : T = s
  · have t0 : (T == s) = true := beq_iff_eq.2 hts
    have HTS := Lib.hid hts
    clear hts
    go_wp2_with fail
    have zz := ((((((br6.set 0 (.int .i64 4)).set 1 (.int .i64 n0)).set 2 (.int .i64 n1)).set 3 (.int .i64 n2)).set 4 (.int .i64 n3)).set 5 (.bool true))
    have x0 := zz.cell 0 rfl
    have x1 := zz.cell 1 rfl
    have x2 := zz.cell 2 rfl
    have x3 := zz.cell 3 rfl
    have x4 := zz.cell 4 rfl
    have x5 := zz.cell 5 rfl
    clear y0 y1 y2 y3 y4 y5
    refine bodyPost_ret (v := .agg #[.int .i64 4, .int .i64 n0, .int .i64 n1, .int .i64 n2, .int .i64 n3, .bool true]) (by simp [results, Tryd.results11, go_sem, x0, x1, x2, x3, x4, x5]) rfl ?_
    exact ⟨by first | rfl | (rw [if_pos HTS.out]; rfl), (by (repeat (first | with_reducible assumption | with_reducible exact Kp.refl _ | with_reducible refine Kp.drew ?_ | with_reducible refine Kp.drewN ?_ _ | with_reducible refine Kp.alloc ?_ _ | ((with_reducible refine Kp.setCell ?_ ?_ _); rotate_left; (focus (first | omega | (simp; done) | (simp; omega)))) | with_reducible refine Kp.trans ?_ (by assumption))))⟩
  · have t0 : (T == s) = false := beq_eq_false_iff_ne.2 hts
    have HTS := Lib.hid hts
    clear hts
    go_wp2_with fail
    have zz := ((((((br6.set 0 (.int .i64 0)).set 1 (.int .i64 0)).set 2 (.int .i64 0)).set 3 (.int .i64 0)).set 4 (.int .i64 0)).set 5 (.bool false))
    have x0 := zz.cell 0 rfl
    have x1 := zz.cell 1 rfl
    have x2 := zz.cell 2 rfl
    have x3 := zz.cell 3 rfl
    have x4 := zz.cell 4 rfl
    have x5 := zz.cell 5 rfl
    clear y0 y1 y2 y3 y4 y5
    refine bodyPost_ret (v := .agg #[.int .i64 0, .int .i64 0, .int .i64 0, .int .i64 0, .int .i64 0, .bool false]) (by simp [results, Tryd.results11, go_sem, x0, x1, x2, x3, x4, x5]) rfl ?_
    exact ⟨by first | rfl | (rw [if_neg HTS.out]; rfl), (by (repeat (first | with_reducible assumption | with_reducible exact Kp.refl _ | with_reducible refine Kp.drew ?_ | with_reducible refine Kp.drewN ?_ _ | with_reducible refine Kp.alloc ?_ _ | ((with_reducible refine Kp.setCell ?_ ?_ _); rotate_left; (focus (first | omega | (simp; done) | (simp; omega)))) | with_reducible refine Kp.trans ?_ (by assumption))))⟩
set_option maxRecDepth 100000 in
set_option maxHeartbeats 8000000 in
theorem refPut51_Other (s : List UInt8) (w0 : List UInt8) (ws : List (List UInt8)) (hw : splitW s = w0 :: ws) (h0 : w0 ≠ wBox) (h1 : w0 ≠ wFloat) (h2 : w0 ≠ wRule) (h3 : w0 ≠ wLine) (n0 n1 n2 n3 n4 : Int) (hn : (numsL s)[0]? = some n0 ∧ (numsL s)[1]? = some n1 ∧ (numsL s)[2]? = some n2 ∧ (numsL s)[3]? = some n3 ∧ (numsL s)[4]? = some n4) (hp : Put.ok ⟨n0, n1, n2, n3, n4⟩) (hs : s.length ≤ 10000) (w : World) :
    Calls Tryd.prog 11 #[sv s] w fun e w' => e = .returned (if putL ⟨n0, n1, n2, n3, n4⟩ = s then gotV ⟨n0, n1, n2, n3, n4⟩ true else gotV ⟨0, 0, 0, 0, 0⟩ false) ∧ Kp w w' := by
  have e0 : (w0 == [98, 111, 120]) = false := beq_eq_false_iff_ne.2 h0
  have e1 : (w0 == [102, 108, 111, 97, 116]) = false := beq_eq_false_iff_ne.2 h1
  have e2 : (w0 == [114, 117, 108, 101]) = false := beq_eq_false_iff_ne.2 h2
  have e3 : (w0 == [108, 105, 110, 101]) = false := beq_eq_false_iff_ne.2 h3
  have CN := Lib.hid (fun w' => nums_any s hs w')
  have CW := Lib.hid (fun w' => words_any s hs w')
  rw [hw] at CW
  have HN := Lib.hid hn
  have CP := Lib.hid (fun w' => refPut_any ⟨n0, n1, n2, n3, n4⟩ hp w')
  obtain ⟨T, hT⟩ : ∃ T, putL ⟨n0, n1, n2, n3, n4⟩ = T := ⟨_, rfl⟩
  rw [hT] at CP ⊢
  have h6 := numsL_len s
  clear hn hp hT hw
  go_enter Tryd.func11, Tryd.ntmps11
  go_wp2_with fail
  refine (CN.out _).mono ?_
  rintro e w1 ⟨v1, rfl, hr1, k1⟩
  obtain ⟨a1, c1, rfl, sl1⟩ := hr1.sl (fun _ => rfl)
  have m1 := sl1.2.1
  have m2 := sl1.2.2.1
  unfold maxLen at m2
  rcases sl1.2.2.2 with e | ⟨g, o, rfl, hg, r1⟩
  · rw [e] at h6; simp at h6
  have d0 := r1 0 _ HN.out.1 0 _ rfl
  have d1 := r1 1 _ HN.out.2.1 0 _ rfl
  have d2 := r1 2 _ HN.out.2.2.1 0 _ rfl
  have d3 := r1 3 _ HN.out.2.2.2.1 0 _ rfl
  have d4 := r1 4 _ HN.out.2.2.2.2 0 _ rfl
  simp only [Nat.add_zero, Nat.mul_one] at d0 d1 d2 d3 d4
  have br1 : Blk w1 w.heap.size [.int .i64 0, .int .i64 0, .int .i64 0, .int .i64 0, .int .i64 0, .bool false] 37 := Blk.kp (by (repeat (first | with_reducible assumption | ((with_reducible refine Blk.newL ?_ ?_); (focus (first | (simp; done) | omega)); rfl) | with_reducible refine Blk.drew ?_ | with_reducible refine Blk.drewN ?_ _ | with_reducible refine Blk.alloc ?_ _ | ((with_reducible refine Blk.other ?_ ?_ _); rotate_left; (focus (first | with_reducible assumption | omega | (simp; done) | (simp; omega))))))) k1
  have kw1 : Kp w w1 := ((by (repeat (first | with_reducible assumption | with_reducible exact Kp.refl _ | with_reducible refine Kp.drew ?_ | with_reducible refine Kp.drewN ?_ _ | with_reducible refine Kp.alloc ?_ _ | ((with_reducible refine Kp.setCell ?_ ?_ _); rotate_left; (focus (first | omega | (simp; done) | (simp; omega)))) | with_reducible refine Kp.trans ?_ (by assumption)))) : Kp w _).trans k1
  obtain ⟨L, hL⟩ : ∃ L, (numsL s).length = L := ⟨_, rfl⟩
  rw [hL] at h6 m1 ⊢
  have l0 : 0 < L := by omega
  have l1 : (1 : Int) < (L : Int) := by omega
  have l2 : (2 : Int) < (L : Int) := by omega
  have l3 : (3 : Int) < (L : Int) := by omega
  have l4 : (4 : Int) < (L : Int) := by omega
  clear hr1 sl1 r1 k1 hL HN CN
  go_wp2_with fail
  refine (CW.out _).mono ?_
  rintro e w2 ⟨v2, rfl, hr2, k2⟩
  obtain ⟨a2, c2, rfl, sl2⟩ := hr2.sl (fun _ => rfl)
  have m3 := sl2.2.1
  have m4 := sl2.2.2.1
  unfold maxLen at m4
  rcases sl2.2.2.2 with e | ⟨g2', o2, rfl, hg2, r2⟩
  · cases e
  have q0 := r2 0 _ rfl 0 _ rfl
  simp only [Nat.add_zero, Nat.mul_one] at q0
  have kw2 : Kp w1 w2 := ((by (repeat (first | with_reducible assumption | with_reducible exact Kp.refl _ | with_reducible refine Kp.drew ?_ | with_reducible refine Kp.drewN ?_ _ | with_reducible refine Kp.alloc ?_ _ | ((with_reducible refine Kp.setCell ?_ ?_ _); rotate_left; (focus (first | omega | (simp; done) | (simp; omega)))) | with_reducible refine Kp.trans ?_ (by assumption)))) : Kp w1 _).trans k2
  have br := br1.kp kw2
  have bp : Blk w2 w1.heap.size [.int .i64 0, .int .i64 0, .int .i64 0, .int .i64 0, .int .i64 0] 33 := Blk.kp (by (repeat (first | with_reducible assumption | ((with_reducible refine Blk.newL ?_ ?_); (focus (first | (simp; done) | omega)); rfl) | with_reducible refine Blk.drew ?_ | with_reducible refine Blk.drewN ?_ _ | with_reducible refine Blk.alloc ?_ _ | ((with_reducible refine Blk.other ?_ ?_ _); rotate_left; (focus (first | with_reducible assumption | omega | (simp; done) | (simp; omega))))))) k2
  have brl := br1.lt
  clear hr2 sl2 r2 k2 br1 CW
  have f0 := bp.free 0
  have z0 := bp.cell 0 rfl
  have f1 := bp.free 1
  have z1 := bp.cell 1 rfl
  have f2 := bp.free 2
  have z2 := bp.cell 2 rfl
  have f3 := bp.free 3
  have z3 := bp.cell 3 rfl
  have f4 := bp.free 4
  have z4 := bp.cell 4 rfl
  go_wp2_with fail
  (refine wp_region_held_drew (S := (fun w' => (∀ b o, b < w1.heap.size → w'.cell? ⟨b, o, none⟩ = w1.cell? ⟨b, o, none⟩) ∧ Kp w1 w')) (by kernel_rfl) ?_ (fun hHd => ?_); (focus ((try dsimp only); (first | with_reducible assumption | with_reducible exact held_start _ | with_reducible exact held_next (by assumption) (by assumption) | with_reducible exact held_alloc (by assumption) _ | with_reducible exact held_drew (by assumption) | ((with_reducible refine held_kp ?_); (repeat (first | with_reducible assumption | with_reducible exact Kp.refl _ | with_reducible refine Kp.drew ?_ | with_reducible refine Kp.drewN ?_ _ | with_reducible refine Kp.alloc ?_ _ | ((with_reducible refine Kp.setCell ?_ ?_ _); rotate_left; (focus (first | omega | (simp; done) | (simp; omega)))) | with_reducible refine Kp.trans ?_ (by assumption))))))))
  (refine takeH (i := 0) (oi := ?o308) (v := ?v308) ?h308 (by kernel_rfl) ?q308 (Or.inl ⟨?w308, ?y308⟩) (by assumption) ?r308; (case h308 => ((simp only [g1, g3]); rfl)); (case q308 => exact fun _ _ _ h => h); (case w308 => rfl); (case y308 => (intro w' hSw; (try dsimp only at hSw); go_simp; (try with_reducible rfl))); (try simp only [Act.put, s1, s2, s3]))
  (refine takeH (i := 1) (oi := ?o309) (v := ?v309) ?h309 (by kernel_rfl) ?q309 (Or.inl ⟨?w309, ?y309⟩) (by assumption) ?r309; (case h309 => ((simp only [g1, g2, g3]); rfl)); (case q309 => exact fun _ _ _ h => h); (case w309 => rfl); (case y309 => (intro w' hSw; (try dsimp only at hSw); go_simp; (try with_reducible rfl))); (try simp only [Act.put, s1, s2, s3]))
  (refine takeH (i := 2) (oi := ?o310) (v := ?v310) ?h310 (by kernel_rfl) ?q310 (Or.inl ⟨?w310, ?y310⟩) (by assumption) ?r310; (case h310 => ((simp only [g1, g2, g3]); rfl)); (case q310 => exact fun _ _ _ h => h); (case w310 => rfl); (case y310 => (intro w' hSw; (try dsimp only at hSw); go_simp; (try with_reducible rfl))); (try simp only [Act.put, s1, s2, s3]))
  (refine takeH (i := 3) (oi := ?o311) (v := ?v311) ?h311 (by kernel_rfl) ?q311 (Or.inl ⟨?w311, ?y311⟩) (by assumption) ?r311; (case h311 => ((simp only [g1, g2, g3]); rfl)); (case q311 => exact fun _ _ _ h => h); (case w311 => rfl); (case y311 => (intro w' hSw; (try dsimp only at hSw); go_simp; (try with_reducible rfl))); (try simp only [Act.put, s1, s2, s3]))
  (refine takeH (i := 4) (oi := ?o312) (v := ?v312) ?h312 (by kernel_rfl) ?q312 (Or.inl ⟨?w312, ?y312⟩) (by assumption) ?r312; (case h312 => ((simp only [g1, g2, g3]); rfl)); (case q312 => exact fun _ _ _ h => h); (case w312 => rfl); (case y312 => (intro w' hSw; (try dsimp only at hSw); go_simp; (try with_reducible rfl))); (try simp only [Act.put, s1, s2, s3]))
  (refine takeH (i := 5) (oi := ?o313) (v := ?v313) ?h313 (by kernel_rfl) ?q313 (Or.inl ⟨?w313, ?y313⟩) (by assumption) ?r313; (case h313 => ((simp only [g1, g2, g3]); rfl)); (case q313 => exact fun _ _ _ h => h); (case w313 => rfl); (case y313 => (intro w' hSw; (try dsimp only at hSw); go_simp; (try with_reducible rfl))); (try simp only [Act.put, s1, s2, s3]))
  (refine takeH (i := 6) (oi := ?o314) (v := ?v314) ?h314 (by kernel_rfl) ?q314 (Or.inl ⟨?w314, ?y314⟩) (by assumption) ?r314; (case h314 => ((simp only [g1, g2, g3]); rfl)); (case q314 => exact fun _ _ _ h => h); (case w314 => rfl); (case y314 => (intro w' hSw; (try dsimp only at hSw); go_simp; (try with_reducible rfl))); (try simp only [Act.put, s1, s2, s3]))
  (refine takeH (i := 7) (oi := ?o315) (v := ?v315) ?h315 (by kernel_rfl) ?q315 (Or.inl ⟨?w315, ?y315⟩) (by assumption) ?r315; (case h315 => ((simp only [g1, g2, g3]); rfl)); (case q315 => exact fun _ _ _ h => h); (case w315 => rfl); (case y315 => (intro w' hSw; (try dsimp only at hSw); go_simp; (try with_reducible rfl))); (try simp only [Act.put, s1, s2, s3]))
  (refine takeH (i := 8) (oi := ?o316) (v := ?v316) ?h316 (by kernel_rfl) ?q316 (Or.inl ⟨?w316, ?y316⟩) (by assumption) ?r316; (case h316 => ((simp only [g1, g2, g3]); rfl)); (case q316 => exact fun _ _ _ h => h); (case w316 => rfl); (case y316 => (intro w' hSw; (try dsimp only at hSw); go_simp; (try with_reducible rfl))); (try simp only [Act.put, s1, s2, s3]))
  (refine takeH (i := 9) (oi := ?o317) (v := ?v317) ?h317 (by kernel_rfl) ?q317 (Or.inl ⟨?w317, ?y317⟩) (by assumption) ?r317; (case h317 => ((simp only [g1, g2, g3]); rfl)); (case q317 => exact fun _ _ _ h => h); (case w317 => rfl); (case y317 => (intro w' hSw; (try dsimp only at hSw); go_simp; (try with_reducible rfl))); (try simp only [Act.put, s1, s2, s3]))
  (refine takeH (i := 10) (oi := ?o318) (v := ?v318) ?h318 (by kernel_rfl) ?q318 (Or.inl ⟨?w318, ?y318⟩) (by assumption) ?r318; (case h318 => ((simp only [g1, g2, g3]); rfl)); (case q318 => exact fun _ _ _ h => h); (case w318 => rfl); (case y318 => (intro w' hSw; (try dsimp only at hSw); go_simp; (try with_reducible rfl))); (try simp only [Act.put, s1, s2, s3]))
  (refine takeH (i := 11) (oi := ?o319) (v := ?v319) ?h319 (by kernel_rfl) ?q319 (Or.inl ⟨?w319, ?y319⟩) (by assumption) ?r319; (case h319 => ((simp only [g1, g2, g3]); rfl)); (case q319 => exact fun _ _ _ h => h); (case w319 => rfl); (case y319 => (intro w' hSw; (try dsimp only at hSw); go_simp; (try with_reducible rfl))); (try simp only [Act.put, s1, s2, s3]))
  (refine takeH (i := 12) (oi := ?o320) (v := ?v320) ?h320 (by kernel_rfl) ?q320 (Or.inl ⟨?w320, ?y320⟩) (by assumption) ?r320; (case h320 => ((simp only [g1, g2, g3]); rfl)); (case q320 => exact fun _ _ _ h => h); (case w320 => rfl); (case y320 => (intro w' hSw; (try dsimp only at hSw); go_simp; (try with_reducible rfl))); (try simp only [Act.put, s1, s2, s3]))
  (refine takeH (i := 13) (oi := ?o321) (v := ?v321) ?h321 (by kernel_rfl) ?q321 (Or.inl ⟨?w321, ?y321⟩) (by assumption) ?r321; (case h321 => ((simp only [g1, g2, g3]); rfl)); (case q321 => exact fun _ _ _ h => h); (case w321 => rfl); (case y321 => (intro w' hSw; (try dsimp only at hSw); go_simp; (try with_reducible rfl))); (try simp only [Act.put, s1, s2, s3]))
  (refine takeH (i := 14) (oi := ?o322) (v := ?v322) ?h322 (by kernel_rfl) ?q322 (Or.inl ⟨?w322, ?y322⟩) (by assumption) ?r322; (case h322 => ((simp only [g1, g2, g3]); rfl)); (case q322 => exact fun _ _ _ h => h); (case w322 => rfl); (case y322 => (intro w' hSw; (try dsimp only at hSw); go_simp; (try with_reducible rfl))); (try simp only [Act.put, s1, s2, s3]))
  (refine takeH (i := 15) (oi := ?o323) (v := ?v323) ?h323 (by kernel_rfl) ?q323 (Or.inl ⟨?w323, ?y323⟩) (by assumption) ?r323; (case h323 => ((simp only [g1, g2, g3]); rfl)); (case q323 => exact fun _ _ _ h => h); (case w323 => rfl); (case y323 => (intro w' hSw; (try dsimp only at hSw); go_simp; (try with_reducible rfl))); (try simp only [Act.put, s1, s2, s3]))
  (refine wpAnyH_ready (rs := [16]) (by kernel_rfl) (by simp) ?_; refine AllReadyH.cons (o := ?o324) ?h324 (fun K hK => ?s324) AllReadyH.nil; (case h324 => (first | ((simp only [g1, g2, g3]); rfl) | rfl)); go_simp; (try dsimp only); refine hK.out _ _ ?_ (fun hHd => ?_); (focus ((try dsimp only); (first | with_reducible assumption | with_reducible exact held_start _ | with_reducible exact held_next (by assumption) (by assumption) | with_reducible exact held_alloc (by assumption) _ | with_reducible exact held_drew (by assumption) | ((with_reducible refine held_kp ?_); (repeat (first | with_reducible assumption | with_reducible exact Kp.refl _ | with_reducible refine Kp.drew ?_ | with_reducible refine Kp.drewN ?_ _ | with_reducible refine Kp.alloc ?_ _ | ((with_reducible refine Kp.setCell ?_ ?_ _); rotate_left; (focus (first | omega | (simp; done) | (simp; omega)))) | with_reducible refine Kp.trans ?_ (by assumption))))))); clear hK K; (try simp only [Act.put, s1, s2, s3]))
  refine wpAnyH_done (by kernel_rfl) ?_ _
  clear hHd
  have bp5 := (((((bp.set 0 (.int .i64 n0)).set 1 (.int .i64 n1)).set 2 (.int .i64 n2)).set 3 (.int .i64 n3)).set 4 (.int .i64 n4)).drew
  have br5 := (((((br.other (a := ⟨w1.heap.size, 0, none⟩) (by show w.heap.size ≠ w1.heap.size; omega) (.int .i64 n0)).other (a := ⟨w1.heap.size, 1, none⟩) (by show w.heap.size ≠ w1.heap.size; omega) (.int .i64 n1)).other (a := ⟨w1.heap.size, 2, none⟩) (by show w.heap.size ≠ w1.heap.size; omega) (.int .i64 n2)).other (a := ⟨w1.heap.size, 3, none⟩) (by show w.heap.size ≠ w1.heap.size; omega) (.int .i64 n3)).other (a := ⟨w1.heap.size, 4, none⟩) (by show w.heap.size ≠ w1.heap.size; omega) (.int .i64 n4)).drew
  have kw5 : Kp w (((((w2.setCell ⟨w1.heap.size, 0, none⟩ (.int .i64 n0)).setCell ⟨w1.heap.size, 1, none⟩ (.int .i64 n1)).setCell ⟨w1.heap.size, 2, none⟩ (.int .i64 n2)).setCell ⟨w1.heap.size, 3, none⟩ (.int .i64 n3)).setCell ⟨w1.heap.size, 4, none⟩ (.int .i64 n4)).drew := (by (repeat (first | with_reducible assumption | with_reducible exact Kp.refl _ | with_reducible refine Kp.drew ?_ | with_reducible refine Kp.drewN ?_ _ | with_reducible refine Kp.alloc ?_ _ | ((with_reducible refine Kp.setCell ?_ ?_ _); rotate_left; (focus (first | omega | (simp; done) | (simp; omega)))) | with_reducible refine Kp.trans ?_ (by assumption))))
  clear f0 z0 f1 z1 f2 z2 f3 z3 f4 z4 d0 d1 d2 d3 d4 br bp
  generalize (((((w2.setCell ⟨w1.heap.size, 0, none⟩ (.int .i64 n0)).setCell ⟨w1.heap.size, 1, none⟩ (.int .i64 n1)).setCell ⟨w1.heap.size, 2, none⟩ (.int .i64 n2)).setCell ⟨w1.heap.size, 3, none⟩ (.int .i64 n3)).setCell ⟨w1.heap.size, 4, none⟩ (.int .i64 n4)).drew = w5 at bp5 br5 kw5 ⊢
  have z0 := bp5.cell 0 rfl
  have z1 := bp5.cell 1 rfl
  have z2 := bp5.cell 2 rfl
  have z3 := bp5.cell 3 rfl
  have z4 := bp5.cell 4 rfl
  have f0 := br5.free 0
  have y0 := br5.cell 0 rfl
  have f1 := br5.free 1
  have y1 := br5.cell 1 rfl
  have f2 := br5.free 2
  have y2 := br5.cell 2 rfl
  have f3 := br5.free 3
  have y3 := br5.cell 3 rfl
  have f4 := br5.free 4
  have y4 := br5.cell 4 rfl
  have f5 := br5.free 5
  have y5 := br5.cell 5 rfl
  go_wp2_with fail
  refine (CP.out _).mono ?_
  rintro e w6 ⟨rfl, k6⟩
  have kw6 := kw5.trans k6
  have br6 := br5.kp k6
  have bp6 := bp5.kp k6
  clear z0 z1 z2 z3 z4 f0 f1 f2 f3 f4 f5 y0 y1 y2 y3 y4 y5 k6 bp5 br5 kw5
  have z0 := bp6.cell 0 rfl
  have z1 := bp6.cell 1 rfl
  have z2 := bp6.cell 2 rfl
  have z3 := bp6.cell 3 rfl
  have z4 := bp6.cell 4 rfl
  have f0 := br6.free 0
  have y0 := br6.cell 0 rfl
  have f1 := br6.free 1
  have y1 := br6.cell 1 rfl
  have f2 := br6.free 2
  have y2 := br6.cell 2 rfl
  have f3 := br6.free 3
  have y3 := br6.cell 3 rfl
  have f4 := br6.free 4
  have y4 := br6.cell 4 rfl
  have f5 := br6.free 5
  have y5 := br6.cell 5 rfl
  by_cases hts : T = s
  · have t0 : (T == s) = true := beq_iff_eq.2 hts
    have HTS := Lib.hid hts
    clear hts
    go_wp2_with fail
    have zz := ((((((br6.set 0 (.int .i64 n0)).set 1 (.int .i64 n1)).set 2 (.int .i64 n2)).set 3 (.int .i64 n3)).set 4 (.int .i64 n4)).set 5 (.bool true))
    have x0 := zz.cell 0 rfl
    have x1 := zz.cell 1 rfl
    have x2 := zz.cell 2 rfl
    have x3 := zz.cell 3 rfl
    have x4 := zz.cell 4 rfl
    have x5 := zz.cell 5 rfl
    clear y0 y1 y2 y3 y4 y5
    refine bodyPost_ret (v := .agg #[.int .i64 n0, .int .i64 n1, .int .i64 n2, .int .i64 n3, .int .i64 n4, .bool true]) (by simp [results, Tryd.results11, go_sem, x0, x1, x2, x3, x4, x5]) rfl ?_
    exact ⟨by first | rfl | (rw [if_pos HTS.out]; rfl), (by (repeat (first | with_reducible assumption | with_reducible exact Kp.refl _ | with_reducible refine Kp.drew ?_ | with_reducible refine Kp.drewN ?_ _ | with_reducible refine Kp.alloc ?_ _ | ((with_reducible refine Kp.setCell ?_ ?_ _); rotate_left; (focus (first | omega | (simp; done) | (simp; omega)))) | with_reducible refine Kp.trans ?_ (by assumption))))⟩
  · have t0 : (T == s) = false := beq_eq_false_iff_ne.2 hts
    have HTS := Lib.hid hts
    clear hts
    go_wp2_with fail
    have zz := ((((((br6.set 0 (.int .i64 0)).set 1 (.int .i64 0)).set 2 (.int .i64 0)).set 3 (.int .i64 0)).set 4 (.int .i64 0)).set 5 (.bool false))
    have x0 := zz.cell 0 rfl
    have x1 := zz.cell 1 rfl
    have x2 := zz.cell 2 rfl
    have x3 := zz.cell 3 rfl
    have x4 := zz.cell 4 rfl
    have x5 := zz.cell 5 rfl
    clear y0 y1 y2 y3 y4 y5
    refine bodyPost_ret (v := .agg #[.int .i64 0, .int .i64 0, .int .i64 0, .int .i64 0, .int .i64 0, .bool false]) (by simp [results, Tryd.results11, go_sem, x0, x1, x2, x3, x4, x5]) rfl ?_
    exact ⟨by first | rfl | (rw [if_neg HTS.out]; rfl), (by (repeat (first | with_reducible assumption | with_reducible exact Kp.refl _ | with_reducible refine Kp.drew ?_ | with_reducible refine Kp.drewN ?_ _ | with_reducible refine Kp.alloc ?_ _ | ((with_reducible refine Kp.setCell ?_ ?_ _); rotate_left; (focus (first | omega | (simp; done) | (simp; omega)))) | with_reducible refine Kp.trans ?_ (by assumption))))⟩
theorem refPut51_any (s : List UInt8) (hs : s.length ≤ 10000) (w : World) : Calls Tryd.prog 11 #[sv s] w fun e w' => e = .returned (refGot s) ∧ Kp w w' := by
  have hn : (numsL s)[0]? = some (numN s 0) ∧ (numsL s)[1]? = some (numN s 1) ∧ (numsL s)[2]? = some (numN s 2) ∧ (numsL s)[3]? = some (numN s 3) ∧ (numsL s)[4]? = some (numN s 4) :=
    ⟨numsL_at s (by decide), numsL_at s (by decide), numsL_at s (by decide), numsL_at s (by decide), numsL_at s (by decide)⟩
  have hok := refP_ok s
  obtain ⟨w0, ws, hw⟩ := List.exists_cons_of_ne_nil (splitW_ne s)
  have hh : headW s = w0 := by unfold headW; rw [hw]; rfl
  unfold refGot refP refPw at *
  rw [hh] at hok ⊢
  by_cases h0 : w0 = wBox
  · subst h0
    exact refPut51_Box s ws hw _ _ _ _ _ hn hok hs w
  rw [if_neg h0] at hok ⊢
  by_cases h1 : w0 = wFloat
  · subst h1
    exact refPut51_Float s ws hw _ _ _ _ _ hn hok hs w
  rw [if_neg h1] at hok ⊢
  by_cases h2 : w0 = wRule
  · subst h2
    exact refPut51_Rule s ws hw _ _ _ _ _ hn hok hs w
  rw [if_neg h2] at hok ⊢
  by_cases h3 : w0 = wLine
  · subst h3
    exact refPut51_Line s ws hw _ _ _ _ _ hn hok hs w
  rw [if_neg h3] at hok ⊢
  exact refPut51_Other s w0 ws hw h0 h1 h2 h3 _ _ _ _ _ hn hok hs w
end Go.Proofs.YtkglkbkikgncoaaDoor
