/- Part 8 of the proof: The document's lines: the thing that has just this text. -/
import Derived.Test.YteadhacoglcbfaaDoorZ7
namespace Go.Proofs.YteadhacoglcbfaaDoor

open Go.ChangeShapes Go.WideShapes Go.ChangeAt Go.RowKit Go.Shelf

/-- What a line would be, by its word. -/
def refPw (w0 : List UInt8) (N : Nat → Int) : Put :=
  if w0 = wBox then ⟨1, N 0, 0, N 1, N 2⟩ else if w0 = wFloat then ⟨2, N 0, 0, N 1, N 2⟩ else if w0 = wRule then ⟨3, 0, 0, N 0, N 1⟩ else if w0 = wLine then ⟨4, N 0, N 1, N 2, N 3⟩ else ⟨N 0, N 1, N 2, N 3, N 4⟩
def numN (s : List UInt8) (i : Nat) : Int := (numsL s).getD i 0
def headW (s : List UInt8) : List UInt8 := (splitW s).headD []
def refP (s : List UInt8) : Put := refPw (headW s) (numN s)
theorem numsL_len (s : List UInt8) : 6 ≤ (numsL s).length := by unfold numsL; rw [List.length_append, List.length_replicate]; omega
theorem numsL_at (s : List UInt8) {i : Nat} (hi : i < 6) : (numsL s)[i]? = some (numN s i) := by
  have := numsL_len s
  unfold numN
  rw [List.getD_eq_getElem?_getD, List.getElem?_eq_getElem (by omega)]
  rfl
theorem numN_i64 (s : List UInt8) (i : Nat) : I64 (numN s i) := by
  have z : I64 0 := by unfold I64; omega
  unfold numN
  rw [List.getD_eq_getElem?_getD]
  cases h : (numsL s)[i]? with
  | none => exact z
  | some x =>
    have hx := List.mem_of_getElem? h
    unfold numsL valsL at hx
    rcases List.mem_append.1 hx with hx | hx
    · obtain ⟨y, _, rfl⟩ := List.mem_map.1 hx
      exact valueL_i64 y
    · rw [List.eq_of_mem_replicate hx]; exact z
theorem refP_ok (s : List UInt8) : (refP s).ok := by
  have z : I64 0 := by unfold I64; omega
  have z1 : I64 1 := by unfold I64; omega
  have z2 : I64 2 := by unfold I64; omega
  have z3 : I64 3 := by unfold I64; omega
  have z4 : I64 4 := by unfold I64; omega
  have n := numN_i64 s
  unfold refP refPw
  split
  · exact ⟨z1, n 0, z, n 1, n 2⟩
  split
  · exact ⟨z2, n 0, z, n 1, n 2⟩
  split
  · exact ⟨z3, z, z, n 0, n 1⟩
  split
  · exact ⟨z4, n 0, n 1, n 2, n 3⟩
  · exact ⟨n 0, n 1, n 2, n 3, n 4⟩
/-- The document's thing of a text. -/
def gotV (p : Put) (b : Bool) : Value := .agg #[.int .i64 p.k, .int .i64 p.n, .int .i64 p.l, .int .i64 p.y, .int .i64 p.h, .bool b]
def refGot (s : List UInt8) : Value := if putL (refP s) = s then gotV (refP s) true else gotV ⟨0, 0, 0, 0, 0⟩ false
theorem headW_line {wd : List UInt8} (hw : (32 : UInt8) ∉ wd) (ns : List Int) : headW (lineL wd ns) = wd := by unfold headW; rw [splitW_line hw]; rfl
theorem vals_line {wd : List UInt8} (hw : (32 : UInt8) ∉ wd) {ns : List Int} (h : ∀ n, n ∈ ns → I64 n) : valsL (lineL wd ns) = ns := by
  unfold valsL
  rw [splitW_line hw]
  show (ns.map Lib.itoa).map valueL = ns
  rw [List.map_map]
  conv => rhs; rw [← List.map_id ns]
  exact List.map_congr_left fun n hn => value_itoa (h n hn)
/-- Of a thing's own text the document makes just this thing. -/
theorem refP_putL {p : Put} (h : p.ok) (hn : p.norm = p) : refP (putL p) = p := by
  obtain ⟨k, n, l, y, x⟩ := p
  obtain ⟨q1, q2, q3, q4, q5⟩ := h
  simp only at q1 q2 q3 q4 q5
  unfold Put.norm at hn
  simp only at hn
  unfold refP numN numsL putL
  simp only
  by_cases h1 : k = 1
  · subst h1
    rw [if_pos (.inl rfl), Put.mk.injEq] at hn
    obtain ⟨_, _, rfl, _, _⟩ := hn
    rw [if_pos rfl, headW_line (by decide), vals_line (by decide) (by simp [q2, q4, q5])]
    rfl
  by_cases h2 : k = 2
  · subst h2
    rw [if_pos (.inr rfl), Put.mk.injEq] at hn
    obtain ⟨_, _, rfl, _, _⟩ := hn
    rw [if_neg h1, if_pos rfl, headW_line (by decide), vals_line (by decide) (by simp [q2, q4, q5])]
    rfl
  by_cases h3 : k = 3
  · subst h3
    rw [if_neg (by decide), if_pos rfl, Put.mk.injEq] at hn
    obtain ⟨_, rfl, rfl, _, _⟩ := hn
    rw [if_neg h1, if_neg h2, if_pos rfl, headW_line (by decide), vals_line (by decide) (by simp [q4, q5])]
    rfl
  by_cases h4 : k = 4
  · subst h4
    rw [if_neg h1, if_neg h2, if_neg h3, if_pos rfl, headW_line (by decide), vals_line (by decide) (by simp [q2, q3, q4, q5])]
    rfl
  rw [if_neg h1, if_neg h2, if_neg h3, if_neg h4, headW_line (by decide), vals_line (by decide) (by simp [q1, q2, q3, q4, q5])]
  rfl
/-- A thing that has just this text is told by it in full. -/
theorem refP_norm {s : List UInt8} (h : putL (refP s) = s) : (refP s).norm = refP s := by
  unfold refP refPw at h ⊢
  split
  · rfl
  rename_i h1
  rw [if_neg h1] at h
  split
  · rfl
  rename_i h2
  rw [if_neg h2] at h
  split
  · rfl
  rename_i h3
  rw [if_neg h3] at h
  split
  · rfl
  rename_i h4
  rw [if_neg h4] at h
  unfold Put.norm
  unfold putL at h
  simp only at h ⊢
  by_cases k1 : numN s 0 = 1
  · rw [if_pos k1] at h
    exact absurd (by rw [← h, headW_line (by decide)]) h1
  by_cases k2 : numN s 0 = 2
  · rw [if_neg k1, if_pos k2] at h
    exact absurd (by rw [← h, headW_line (by decide)]) h2
  by_cases k3 : numN s 0 = 3
  · rw [if_neg k1, if_neg k2, if_pos k3] at h
    exact absurd (by rw [← h, headW_line (by decide)]) h3
  rw [if_neg (by omega), if_neg k3]
/-- The program and the document tell the same thing. -/
theorem refGot_put (s : List UInt8) : refGot s = match putP s with
    | some p => gotV p true
    | none => gotV ⟨0, 0, 0, 0, 0⟩ false := by
  unfold refGot
  cases h : putP s with
  | some p =>
    obtain ⟨e1, e2, e3⟩ := putP_ok h
    have e : refP s = p := by rw [e1]; exact refP_putL e3 e2
    rw [e, if_pos e1.symm]
  | none =>
    rw [if_neg (fun e => ?_)]
    have hh := putP_putL (refP_ok s)
    rw [e, h] at hh
    cases hh
set_option maxRecDepth 100000 in
set_option maxHeartbeats 8000000 in
theorem refPut51_Box (s : List UInt8) (ws : List (List UInt8)) (hw : splitW s = wBox :: ws) (n0 n1 n2 n3 n4 : Int) (hn : (numsL s)[0]? = some n0 ∧ (numsL s)[1]? = some n1 ∧ (numsL s)[2]? = some n2 ∧ (numsL s)[3]? = some n3 ∧ (numsL s)[4]? = some n4) (hp : Put.ok ⟨1, n0, 0, n1, n2⟩) (hs : s.length ≤ 10000) (w : World) :
    Calls Tryd.prog 11 #[sv s] w fun e w' => e = .returned (if putL ⟨1, n0, 0, n1, n2⟩ = s then gotV ⟨1, n0, 0, n1, n2⟩ true else gotV ⟨0, 0, 0, 0, 0⟩ false) ∧ Kp w w' := by
  have CN := Lib.hid (fun w' => nums_any s hs w')
  have CW := Lib.hid (fun w' => words_any s hs w')
  rw [hw] at CW
  have HN := Lib.hid hn
  have CP := Lib.hid (fun w' => refPut_any ⟨1, n0, 0, n1, n2⟩ hp w')
  obtain ⟨T, hT⟩ : ∃ T, putL ⟨1, n0, 0, n1, n2⟩ = T := ⟨_, rfl⟩
  rw [hT] at CP ⊢
  have h6 := numsL_len s
  clear hn hp hT hw
  go_enter Tryd.func11, Tryd.ntmps11
  go_wp2_with fail
  refine (CN.out _).mono ?_
  rintro e w1 ⟨v1, rfl, hr1, k1⟩
  obtain ⟨a1, c1, rfl, sl1⟩ := hr1.sl (fun _ => rfl)
  have m1 := sl1.2.1
  have m2 := sl1.2.2.1
  unfold maxLen at m2
  rcases sl1.2.2.2 with e | ⟨g, o, rfl, hg, r1⟩
  · rw [e] at h6; simp at h6
  have d0 := r1 0 _ HN.out.1 0 _ rfl
  have d1 := r1 1 _ HN.out.2.1 0 _ rfl
  have d2 := r1 2 _ HN.out.2.2.1 0 _ rfl
  have d3 := r1 3 _ HN.out.2.2.2.1 0 _ rfl
  have d4 := r1 4 _ HN.out.2.2.2.2 0 _ rfl
  simp only [Nat.add_zero, Nat.mul_one] at d0 d1 d2 d3 d4
  have br1 : Blk w1 w.heap.size [.int .i64 0, .int .i64 0, .int .i64 0, .int .i64 0, .int .i64 0, .bool false] 37 := Blk.kp (by (repeat (first | with_reducible assumption | ((with_reducible refine Blk.newL ?_ ?_); (focus (first | (simp; done) | omega)); rfl) | with_reducible refine Blk.drew ?_ | with_reducible refine Blk.drewN ?_ _ | with_reducible refine Blk.alloc ?_ _ | ((with_reducible refine Blk.other ?_ ?_ _); rotate_left; (focus (first | with_reducible assumption | omega | (simp; done) | (simp; omega))))))) k1
  have kw1 : Kp w w1 := ((by (repeat (first | with_reducible assumption | with_reducible exact Kp.refl _ | with_reducible refine Kp.drew ?_ | with_reducible refine Kp.drewN ?_ _ | with_reducible refine Kp.alloc ?_ _ | ((with_reducible refine Kp.setCell ?_ ?_ _); rotate_left; (focus (first | omega | (simp; done) | (simp; omega)))) | with_reducible refine Kp.trans ?_ (by assumption)))) : Kp w _).trans k1
  obtain ⟨L, hL⟩ : ∃ L, (numsL s).length = L := ⟨_, rfl⟩
  rw [hL] at h6 m1 ⊢
  have l0 : 0 < L := by omega
  have l1 : (1 : Int) < (L : Int) := by omega
  have l2 : (2 : Int) < (L : Int) := by omega
  have l3 : (3 : Int) < (L : Int) := by omega
  have l4 : (4 : Int) < (L : Int) := by omega
  clear hr1 sl1 r1 k1 hL HN CN
  go_wp2_with fail
  refine (CW.out _).mono ?_
  rintro e w2 ⟨v2, rfl, hr2, k2⟩
  obtain ⟨a2, c2, rfl, sl2⟩ := hr2.sl (fun _ => rfl)
  have m3 := sl2.2.1
  have m4 := sl2.2.2.1
  unfold maxLen at m4
  rcases sl2.2.2.2 with e | ⟨g2', o2, rfl, hg2, r2⟩
  · cases e
  have q0 := r2 0 _ rfl 0 _ rfl
  simp only [Nat.add_zero, Nat.mul_one] at q0
  have kw2 : Kp w1 w2 := ((by (repeat (first | with_reducible assumption | with_reducible exact Kp.refl _ | with_reducible refine Kp.drew ?_ | with_reducible refine Kp.drewN ?_ _ | with_reducible refine Kp.alloc ?_ _ | ((with_reducible refine Kp.setCell ?_ ?_ _); rotate_left; (focus (first | omega | (simp; done) | (simp; omega)))) | with_reducible refine Kp.trans ?_ (by assumption)))) : Kp w1 _).trans k2
  have br := br1.kp kw2
  have bp : Blk w2 w1.heap.size [.int .i64 0, .int .i64 0, .int .i64 0, .int .i64 0, .int .i64 0] 33 := Blk.kp (by (repeat (first | with_reducible assumption | ((with_reducible refine Blk.newL ?_ ?_); (focus (first | (simp; done) | omega)); rfl) | with_reducible refine Blk.drew ?_ | with_reducible refine Blk.drewN ?_ _ | with_reducible refine Blk.alloc ?_ _ | ((with_reducible refine Blk.other ?_ ?_ _); rotate_left; (focus (first | with_reducible assumption | omega | (simp; done) | (simp; omega))))))) k2
  have brl := br1.lt
  clear hr2 sl2 r2 k2 br1 CW
  have f0 := bp.free 0
  have z0 := bp.cell 0 rfl
  have f1 := bp.free 1
  have z1 := bp.cell 1 rfl
  have f2 := bp.free 2
  have z2 := bp.cell 2 rfl
  have f3 := bp.free 3
  have z3 := bp.cell 3 rfl
  have f4 := bp.free 4
  have z4 := bp.cell 4 rfl
  go_wp2_with fail
  (refine wp_region_held_drew (S := (fun w' => (∀ b o, b < w1.heap.size → w'.cell? ⟨b, o, none⟩ = w1.cell? ⟨b, o, none⟩) ∧ Kp w1 w')) (by kernel_rfl) ?_ (fun hHd => ?_); (focus ((try dsimp only); (first | with_reducible assumption | with_reducible exact held_start _ | with_reducible exact held_next (by assumption) (by assumption) | with_reducible exact held_alloc (by assumption) _ | with_reducible exact held_drew (by assumption) | ((with_reducible refine held_kp ?_); (repeat (first | with_reducible assumption | with_reducible exact Kp.refl _ | with_reducible refine Kp.drew ?_ | with_reducible refine Kp.drewN ?_ _ | with_reducible refine Kp.alloc ?_ _ | ((with_reducible refine Kp.setCell ?_ ?_ _); rotate_left; (focus (first | omega | (simp; done) | (simp; omega)))) | with_reducible refine Kp.trans ?_ (by assumption))))))))
  (refine takeH (i := 0) (oi := ?o166) (v := ?v166) ?h166 (by kernel_rfl) ?q166 (Or.inl ⟨?w166, ?y166⟩) (by assumption) ?r166; (case h166 => ((simp only [g1, g3]); rfl)); (case q166 => exact fun _ _ _ h => h); (case w166 => rfl); (case y166 => (intro w' hSw; (try dsimp only at hSw); go_simp; (try with_reducible rfl))); (try simp only [Act.put, s1, s2, s3]))
  (refine takeH (i := 1) (oi := ?o167) (v := ?v167) ?h167 (by kernel_rfl) ?q167 (Or.inl ⟨?w167, ?y167⟩) (by assumption) ?r167; (case h167 => ((simp only [g1, g2, g3]); rfl)); (case q167 => exact fun _ _ _ h => h); (case w167 => rfl); (case y167 => (intro w' hSw; (try dsimp only at hSw); go_simp; (try with_reducible rfl))); (try simp only [Act.put, s1, s2, s3]))
  (refine takeH (i := 2) (oi := ?o168) (v := ?v168) ?h168 (by kernel_rfl) ?q168 (Or.inl ⟨?w168, ?y168⟩) (by assumption) ?r168; (case h168 => ((simp only [g1, g2, g3]); rfl)); (case q168 => exact fun _ _ _ h => h); (case w168 => rfl); (case y168 => (intro w' hSw; (try dsimp only at hSw); go_simp; (try with_reducible rfl))); (try simp only [Act.put, s1, s2, s3]))
  (refine takeH (i := 3) (oi := ?o169) (v := ?v169) ?h169 (by kernel_rfl) ?q169 (Or.inl ⟨?w169, ?y169⟩) (by assumption) ?r169; (case h169 => ((simp only [g1, g2, g3]); rfl)); (case q169 => exact fun _ _ _ h => h); (case w169 => rfl); (case y169 => (intro w' hSw; (try dsimp only at hSw); go_simp; (try with_reducible rfl))); (try simp only [Act.put, s1, s2, s3]))
  (refine takeH (i := 4) (oi := ?o170) (v := ?v170) ?h170 (by kernel_rfl) ?q170 (Or.inl ⟨?w170, ?y170⟩) (by assumption) ?r170; (case h170 => ((simp only [g1, g2, g3]); rfl)); (case q170 => exact fun _ _ _ h => h); (case w170 => rfl); (case y170 => (intro w' hSw; (try dsimp only at hSw); go_simp; (try with_reducible rfl))); (try simp only [Act.put, s1, s2, s3]))
  (refine takeH (i := 5) (oi := ?o171) (v := ?v171) ?h171 (by kernel_rfl) ?q171 (Or.inl ⟨?w171, ?y171⟩) (by assumption) ?r171; (case h171 => ((simp only [g1, g2, g3]); rfl)); (case q171 => exact fun _ _ _ h => h); (case w171 => rfl); (case y171 => (intro w' hSw; (try dsimp only at hSw); go_simp; (try with_reducible rfl))); (try simp only [Act.put, s1, s2, s3]))
  (refine takeH (i := 6) (oi := ?o172) (v := ?v172) ?h172 (by kernel_rfl) ?q172 (Or.inl ⟨?w172, ?y172⟩) (by assumption) ?r172; (case h172 => ((simp only [g1, g2, g3]); rfl)); (case q172 => exact fun _ _ _ h => h); (case w172 => rfl); (case y172 => (intro w' hSw; (try dsimp only at hSw); go_simp; (try with_reducible rfl))); (try simp only [Act.put, s1, s2, s3]))
  (refine takeH (i := 7) (oi := ?o173) (v := ?v173) ?h173 (by kernel_rfl) ?q173 (Or.inl ⟨?w173, ?y173⟩) (by assumption) ?r173; (case h173 => ((simp only [g1, g2, g3]); rfl)); (case q173 => exact fun _ _ _ h => h); (case w173 => rfl); (case y173 => (intro w' hSw; (try dsimp only at hSw); go_simp; (try with_reducible rfl))); (try simp only [Act.put, s1, s2, s3]))
  (refine takeH (i := 8) (oi := ?o174) (v := ?v174) ?h174 (by kernel_rfl) ?q174 (Or.inl ⟨?w174, ?y174⟩) (by assumption) ?r174; (case h174 => ((simp only [g1, g2, g3]); rfl)); (case q174 => exact fun _ _ _ h => h); (case w174 => rfl); (case y174 => (intro w' hSw; (try dsimp only at hSw); go_simp; (try with_reducible rfl))); (try simp only [Act.put, s1, s2, s3]))
  (refine takeH (i := 9) (oi := ?o175) (v := ?v175) ?h175 (by kernel_rfl) ?q175 (Or.inl ⟨?w175, ?y175⟩) (by assumption) ?r175; (case h175 => ((simp only [g1, g2, g3]); rfl)); (case q175 => exact fun _ _ _ h => h); (case w175 => rfl); (case y175 => (intro w' hSw; (try dsimp only at hSw); go_simp; (try with_reducible rfl))); (try simp only [Act.put, s1, s2, s3]))
  (refine wpAnyH_ready (rs := [10]) (by kernel_rfl) (by simp) ?_; refine AllReadyH.cons (o := ?o176) ?h176 (fun K hK => ?s176) AllReadyH.nil; (case h176 => (first | ((simp only [g1, g2, g3]); rfl) | rfl)); go_simp; (try dsimp only); refine hK.out _ _ ?_ (fun hHd => ?_); (focus ((try dsimp only); (first | with_reducible assumption | with_reducible exact held_start _ | with_reducible exact held_next (by assumption) (by assumption) | with_reducible exact held_alloc (by assumption) _ | with_reducible exact held_drew (by assumption) | ((with_reducible refine held_kp ?_); (repeat (first | with_reducible assumption | with_reducible exact Kp.refl _ | with_reducible refine Kp.drew ?_ | with_reducible refine Kp.drewN ?_ _ | with_reducible refine Kp.alloc ?_ _ | ((with_reducible refine Kp.setCell ?_ ?_ _); rotate_left; (focus (first | omega | (simp; done) | (simp; omega)))) | with_reducible refine Kp.trans ?_ (by assumption))))))); clear hK K; (try simp only [Act.put, s1, s2, s3]))
  refine wpAnyH_done (by kernel_rfl) ?_ _
  clear hHd
  have bp5 := (((((bp.set 0 (.int .i64 1)).set 1 (.int .i64 n0)).set 2 (.int .i64 0)).set 3 (.int .i64 n1)).set 4 (.int .i64 n2)).drew
  have br5 := (((((br.other (a := ⟨w1.heap.size, 0, none⟩) (by show w.heap.size ≠ w1.heap.size; omega) (.int .i64 1)).other (a := ⟨w1.heap.size, 1, none⟩) (by show w.heap.size ≠ w1.heap.size; omega) (.int .i64 n0)).other (a := ⟨w1.heap.size, 2, none⟩) (by show w.heap.size ≠ w1.heap.size; omega) (.int .i64 0)).other (a := ⟨w1.heap.size, 3, none⟩) (by show w.heap.size ≠ w1.heap.size; omega) (.int .i64 n1)).other (a := ⟨w1.heap.size, 4, none⟩) (by show w.heap.size ≠ w1.heap.size; omega) (.int .i64 n2)).drew
  have kw5 : Kp w (((((w2.setCell ⟨w1.heap.size, 0, none⟩ (.int .i64 1)).setCell ⟨w1.heap.size, 1, none⟩ (.int .i64 n0)).setCell ⟨w1.heap.size, 2, none⟩ (.int .i64 0)).setCell ⟨w1.heap.size, 3, none⟩ (.int .i64 n1)).setCell ⟨w1.heap.size, 4, none⟩ (.int .i64 n2)).drew := (by (repeat (first | with_reducible assumption | with_reducible exact Kp.refl _ | with_reducible refine Kp.drew ?_ | with_reducible refine Kp.drewN ?_ _ | with_reducible refine Kp.alloc ?_ _ | ((with_reducible refine Kp.setCell ?_ ?_ _); rotate_left; (focus (first | omega | (simp; done) | (simp; omega)))) | with_reducible refine Kp.trans ?_ (by assumption))))
  clear f0 z0 f1 z1 f2 z2 f3 z3 f4 z4 d0 d1 d2 d3 d4 br bp
  generalize (((((w2.setCell ⟨w1.heap.size, 0, none⟩ (.int .i64 1)).setCell ⟨w1.heap.size, 1, none⟩ (.int .i64 n0)).setCell ⟨w1.heap.size, 2, none⟩ (.int .i64 0)).setCell ⟨w1.heap.size, 3, none⟩ (.int .i64 n1)).setCell ⟨w1.heap.size, 4, none⟩ (.int .i64 n2)).drew = w5 at bp5 br5 kw5 ⊢
  have z0 := bp5.cell 0 rfl
  have z1 := bp5.cell 1 rfl
  have z2 := bp5.cell 2 rfl
  have z3 := bp5.cell 3 rfl
  have z4 := bp5.cell 4 rfl
  have f0 := br5.free 0
  have y0 := br5.cell 0 rfl
  have f1 := br5.free 1
  have y1 := br5.cell 1 rfl
  have f2 := br5.free 2
  have y2 := br5.cell 2 rfl
  have f3 := br5.free 3
  have y3 := br5.cell 3 rfl
  have f4 := br5.free 4
  have y4 := br5.cell 4 rfl
  have f5 := br5.free 5
  have y5 := br5.cell 5 rfl
  go_wp2_with fail
  refine (CP.out _).mono ?_
  rintro e w6 ⟨rfl, k6⟩
  have kw6 := kw5.trans k6
  have br6 := br5.kp k6
  have bp6 := bp5.kp k6
  clear z0 z1 z2 z3 z4 f0 f1 f2 f3 f4 f5 y0 y1 y2 y3 y4 y5 k6 bp5 br5 kw5
  have z0 := bp6.cell 0 rfl
  have z1 := bp6.cell 1 rfl
  have z2 := bp6.cell 2 rfl
  have z3 := bp6.cell 3 rfl
  have z4 := bp6.cell 4 rfl
  have f0 := br6.free 0
  have y0 := br6.cell 0 rfl
  have f1 := br6.free 1
  have y1 := br6.cell 1 rfl
  have f2 := br6.free 2
  have y2 := br6.cell 2 rfl
  have f3 := br6.free 3
  have y3 := br6.cell 3 rfl
  have f4 := br6.free 4
  have y4 := br6.cell 4 rfl
  have f5 := br6.free 5
  have y5 := br6.cell 5 rfl
  by_cases hts : T = s
  · have t0 : (T == s) = true := beq_iff_eq.2 hts
    have HTS := Lib.hid hts
    clear hts
    go_wp2_with fail
    have zz := ((((((br6.set 0 (.int .i64 1)).set 1 (.int .i64 n0)).set 2 (.int .i64 0)).set 3 (.int .i64 n1)).set 4 (.int .i64 n2)).set 5 (.bool true))
    have x0 := zz.cell 0 rfl
    have x1 := zz.cell 1 rfl
    have x2 := zz.cell 2 rfl
    have x3 := zz.cell 3 rfl
    have x4 := zz.cell 4 rfl
    have x5 := zz.cell 5 rfl
    clear y0 y1 y2 y3 y4 y5
    refine bodyPost_ret (v := .agg #[.int .i64 1, .int .i64 n0, .int .i64 0, .int .i64 n1, .int .i64 n2, .bool true]) (by simp [results, Tryd.results11, go_sem, x0, x1, x2, x3, x4, x5]) rfl ?_
    exact ⟨by first | rfl | (rw [if_pos HTS.out]; rfl), (by (repeat (first | with_reducible assumption | with_reducible exact Kp.refl _ | with_reducible refine Kp.drew ?_ | with_reducible refine Kp.drewN ?_ _ | with_reducible refine Kp.alloc ?_ _ | ((with_reducible refine Kp.setCell ?_ ?_ _); rotate_left; (focus (first | omega | (simp; done) | (simp; omega)))) | with_reducible refine Kp.trans ?_ (by assumption))))⟩
  · have t0 : (T == s) = false := beq_eq_false_iff_ne.2 hts
    have HTS := Lib.hid hts
    clear hts
    go_wp2_with fail
    have zz := ((((((br6.set 0 (.int .i64 0)).set 1 (.int .i64 0)).set 2 (.int .i64 0)).set 3 (.int .i64 0)).set 4 (.int .i64 0)).set 5 (.bool false))
    have x0 := zz.cell 0 rfl
    have x1 := zz.cell 1 rfl
    have x2 := zz.cell 2 rfl
    have x3 := zz.cell 3 rfl
    have x4 := zz.cell 4 rfl
    have x5 := zz.cell 5 rfl
    clear y0 y1 y2 y3 y4 y5
    refine bodyPost_ret (v := .agg #[.int .i64 0, .int .i64 0, .int .i64 0, .int .i64 0, .int .i64 0, .bool false]) (by simp [results, Tryd.results11, go_sem, x0, x1, x2, x3, x4, x5]) rfl ?_
    exact ⟨by first | rfl | (rw [if_neg HTS.out]; rfl), (by (repeat (first | with_reducible assumption | with_reducible exact Kp.refl _ | with_reducible refine Kp.drew ?_ | with_reducible refine Kp.drewN ?_ _ | with_reducible refine Kp.alloc ?_ _ | ((with_reducible refine Kp.setCell ?_ ?_ _); rotate_left; (focus (first | omega | (simp; done) | (simp; omega)))) | with_reducible refine Kp.trans ?_ (by assumption))))⟩
set_option maxRecDepth 100000 in
set_option maxHeartbeats 8000000 in
theorem refPut51_Float (s : List UInt8) (ws : List (List UInt8)) (hw : splitW s = wFloat :: ws) (n0 n1 n2 n3 n4 : Int) (hn : (numsL s)[0]? = some n0 ∧ (numsL s)[1]? = some n1 ∧ (numsL s)[2]? = some n2 ∧ (numsL s)[3]? = some n3 ∧ (numsL s)[4]? = some n4) (hp : Put.ok ⟨2, n0, 0, n1, n2⟩) (hs : s.length ≤ 10000) (w : World) :
    Calls Tryd.prog 11 #[sv s] w fun e w' => e = .returned (if putL ⟨2, n0, 0, n1, n2⟩ = s then gotV ⟨2, n0, 0, n1, n2⟩ true else gotV ⟨0, 0, 0, 0, 0⟩ false) ∧ Kp w w' := by
  have CN := Lib.hid (fun w' => nums_any s hs w')
  have CW := Lib.hid (fun w' => words_any s hs w')
  rw [hw] at CW
  have HN := Lib.hid hn
  have CP := Lib.hid (fun w' => refPut_any ⟨2, n0, 0, n1, n2⟩ hp w')
  obtain ⟨T, hT⟩ : ∃ T, putL ⟨2, n0, 0, n1, n2⟩ = T := ⟨_, rfl⟩
  rw [hT] at CP ⊢
  have h6 := numsL_len s
  clear hn hp hT hw
  go_enter Tryd.func11, Tryd.ntmps11
  go_wp2_with fail
  refine (CN.out _).mono ?_
  rintro e w1 ⟨v1, rfl, hr1, k1⟩
  obtain ⟨a1, c1, rfl, sl1⟩ := hr1.sl (fun _ => rfl)
  have m1 := sl1.2.1
  have m2 := sl1.2.2.1
  unfold maxLen at m2
  rcases sl1.2.2.2 with e | ⟨g, o, rfl, hg, r1⟩
  · rw [e] at h6; simp at h6
  have d0 := r1 0 _ HN.out.1 0 _ rfl
  have d1 := r1 1 _ HN.out.2.1 0 _ rfl
  have d2 := r1 2 _ HN.out.2.2.1 0 _ rfl
  have d3 := r1 3 _ HN.out.2.2.2.1 0 _ rfl
  have d4 := r1 4 _ HN.out.2.2.2.2 0 _ rfl
  simp only [Nat.add_zero, Nat.mul_one] at d0 d1 d2 d3 d4
  have br1 : Blk w1 w.heap.size [.int .i64 0, .int .i64 0, .int .i64 0, .int .i64 0, .int .i64 0, .bool false] 37 := Blk.kp (by (repeat (first | with_reducible assumption | ((with_reducible refine Blk.newL ?_ ?_); (focus (first | (simp; done) | omega)); rfl) | with_reducible refine Blk.drew ?_ | with_reducible refine Blk.drewN ?_ _ | with_reducible refine Blk.alloc ?_ _ | ((with_reducible refine Blk.other ?_ ?_ _); rotate_left; (focus (first | with_reducible assumption | omega | (simp; done) | (simp; omega))))))) k1
  have kw1 : Kp w w1 := ((by (repeat (first | with_reducible assumption | with_reducible exact Kp.refl _ | with_reducible refine Kp.drew ?_ | with_reducible refine Kp.drewN ?_ _ | with_reducible refine Kp.alloc ?_ _ | ((with_reducible refine Kp.setCell ?_ ?_ _); rotate_left; (focus (first | omega | (simp; done) | (simp; omega)))) | with_reducible refine Kp.trans ?_ (by assumption)))) : Kp w _).trans k1
  obtain ⟨L, hL⟩ : ∃ L, (numsL s).length = L := ⟨_, rfl⟩
  rw [hL] at h6 m1 ⊢
  have l0 : 0 < L := by omega
  have l1 : (1 : Int) < (L : Int) := by omega
  have l2 : (2 : Int) < (L : Int) := by omega
  have l3 : (3 : Int) < (L : Int) := by omega
  have l4 : (4 : Int) < (L : Int) := by omega
  clear hr1 sl1 r1 k1 hL HN CN
  go_wp2_with fail
  refine (CW.out _).mono ?_
  rintro e w2 ⟨v2, rfl, hr2, k2⟩
  obtain ⟨a2, c2, rfl, sl2⟩ := hr2.sl (fun _ => rfl)
  have m3 := sl2.2.1
  have m4 := sl2.2.2.1
  unfold maxLen at m4
  rcases sl2.2.2.2 with e | ⟨g2', o2, rfl, hg2, r2⟩
  · cases e
  have q0 := r2 0 _ rfl 0 _ rfl
  simp only [Nat.add_zero, Nat.mul_one] at q0
  have kw2 : Kp w1 w2 := ((by (repeat (first | with_reducible assumption | with_reducible exact Kp.refl _ | with_reducible refine Kp.drew ?_ | with_reducible refine Kp.drewN ?_ _ | with_reducible refine Kp.alloc ?_ _ | ((with_reducible refine Kp.setCell ?_ ?_ _); rotate_left; (focus (first | omega | (simp; done) | (simp; omega)))) | with_reducible refine Kp.trans ?_ (by assumption)))) : Kp w1 _).trans k2
  have br := br1.kp kw2
  have bp : Blk w2 w1.heap.size [.int .i64 0, .int .i64 0, .int .i64 0, .int .i64 0, .int .i64 0] 33 := Blk.kp (by (repeat (first | with_reducible assumption | ((with_reducible refine Blk.newL ?_ ?_); (focus (first | (simp; done) | omega)); rfl) | with_reducible refine Blk.drew ?_ | with_reducible refine Blk.drewN ?_ _ | with_reducible refine Blk.alloc ?_ _ | ((with_reducible refine Blk.other ?_ ?_ _); rotate_left; (focus (first | with_reducible assumption | omega | (simp; done) | (simp; omega))))))) k2
  have brl := br1.lt
  clear hr2 sl2 r2 k2 br1 CW
  have f0 := bp.free 0
  have z0 := bp.cell 0 rfl
  have f1 := bp.free 1
  have z1 := bp.cell 1 rfl
  have f2 := bp.free 2
  have z2 := bp.cell 2 rfl
  have f3 := bp.free 3
  have z3 := bp.cell 3 rfl
  have f4 := bp.free 4
  have z4 := bp.cell 4 rfl
  go_wp2_with fail
  (refine wp_region_held_drew (S := (fun w' => (∀ b o, b < w1.heap.size → w'.cell? ⟨b, o, none⟩ = w1.cell? ⟨b, o, none⟩) ∧ Kp w1 w')) (by kernel_rfl) ?_ (fun hHd => ?_); (focus ((try dsimp only); (first | with_reducible assumption | with_reducible exact held_start _ | with_reducible exact held_next (by assumption) (by assumption) | with_reducible exact held_alloc (by assumption) _ | with_reducible exact held_drew (by assumption) | ((with_reducible refine held_kp ?_); (repeat (first | with_reducible assumption | with_reducible exact Kp.refl _ | with_reducible refine Kp.drew ?_ | with_reducible refine Kp.drewN ?_ _ | with_reducible refine Kp.alloc ?_ _ | ((with_reducible refine Kp.setCell ?_ ?_ _); rotate_left; (focus (first | omega | (simp; done) | (simp; omega)))) | with_reducible refine Kp.trans ?_ (by assumption))))))))
  (refine takeH (i := 0) (oi := ?o177) (v := ?v177) ?h177 (by kernel_rfl) ?q177 (Or.inl ⟨?w177, ?y177⟩) (by assumption) ?r177; (case h177 => ((simp only [g1, g3]); rfl)); (case q177 => exact fun _ _ _ h => h); (case w177 => rfl); (case y177 => (intro w' hSw; (try dsimp only at hSw); go_simp; (try with_reducible rfl))); (try simp only [Act.put, s1, s2, s3]))
  (refine takeH (i := 1) (oi := ?o178) (v := ?v178) ?h178 (by kernel_rfl) ?q178 (Or.inl ⟨?w178, ?y178⟩) (by assumption) ?r178; (case h178 => ((simp only [g1, g2, g3]); rfl)); (case q178 => exact fun _ _ _ h => h); (case w178 => rfl); (case y178 => (intro w' hSw; (try dsimp only at hSw); go_simp; (try with_reducible rfl))); (try simp only [Act.put, s1, s2, s3]))
  (refine takeH (i := 2) (oi := ?o179) (v := ?v179) ?h179 (by kernel_rfl) ?q179 (Or.inl ⟨?w179, ?y179⟩) (by assumption) ?r179; (case h179 => ((simp only [g1, g2, g3]); rfl)); (case q179 => exact fun _ _ _ h => h); (case w179 => rfl); (case y179 => (intro w' hSw; (try dsimp only at hSw); go_simp; (try with_reducible rfl))); (try simp only [Act.put, s1, s2, s3]))
  (refine takeH (i := 3) (oi := ?o180) (v := ?v180) ?h180 (by kernel_rfl) ?q180 (Or.inl ⟨?w180, ?y180⟩) (by assumption) ?r180; (case h180 => ((simp only [g1, g2, g3]); rfl)); (case q180 => exact fun _ _ _ h => h); (case w180 => rfl); (case y180 => (intro w' hSw; (try dsimp only at hSw); go_simp; (try with_reducible rfl))); (try simp only [Act.put, s1, s2, s3]))
  (refine takeH (i := 4) (oi := ?o181) (v := ?v181) ?h181 (by kernel_rfl) ?q181 (Or.inl ⟨?w181, ?y181⟩) (by assumption) ?r181; (case h181 => ((simp only [g1, g2, g3]); rfl)); (case q181 => exact fun _ _ _ h => h); (case w181 => rfl); (case y181 => (intro w' hSw; (try dsimp only at hSw); go_simp; (try with_reducible rfl))); (try simp only [Act.put, s1, s2, s3]))
  (refine takeH (i := 5) (oi := ?o182) (v := ?v182) ?h182 (by kernel_rfl) ?q182 (Or.inl ⟨?w182, ?y182⟩) (by assumption) ?r182; (case h182 => ((simp only [g1, g2, g3]); rfl)); (case q182 => exact fun _ _ _ h => h); (case w182 => rfl); (case y182 => (intro w' hSw; (try dsimp only at hSw); go_simp; (try with_reducible rfl))); (try simp only [Act.put, s1, s2, s3]))
  (refine takeH (i := 6) (oi := ?o183) (v := ?v183) ?h183 (by kernel_rfl) ?q183 (Or.inl ⟨?w183, ?y183⟩) (by assumption) ?r183; (case h183 => ((simp only [g1, g2, g3]); rfl)); (case q183 => exact fun _ _ _ h => h); (case w183 => rfl); (case y183 => (intro w' hSw; (try dsimp only at hSw); go_simp; (try with_reducible rfl))); (try simp only [Act.put, s1, s2, s3]))
  (refine takeH (i := 7) (oi := ?o184) (v := ?v184) ?h184 (by kernel_rfl) ?q184 (Or.inl ⟨?w184, ?y184⟩) (by assumption) ?r184; (case h184 => ((simp only [g1, g2, g3]); rfl)); (case q184 => exact fun _ _ _ h => h); (case w184 => rfl); (case y184 => (intro w' hSw; (try dsimp only at hSw); go_simp; (try with_reducible rfl))); (try simp only [Act.put, s1, s2, s3]))
  (refine takeH (i := 8) (oi := ?o185) (v := ?v185) ?h185 (by kernel_rfl) ?q185 (Or.inl ⟨?w185, ?y185⟩) (by assumption) ?r185; (case h185 => ((simp only [g1, g2, g3]); rfl)); (case q185 => exact fun _ _ _ h => h); (case w185 => rfl); (case y185 => (intro w' hSw; (try dsimp only at hSw); go_simp; (try with_reducible rfl))); (try simp only [Act.put, s1, s2, s3]))
  (refine takeH (i := 9) (oi := ?o186) (v := ?v186) ?h186 (by kernel_rfl) ?q186 (Or.inl ⟨?w186, ?y186⟩) (by assumption) ?r186; (case h186 => ((simp only [g1, g2, g3]); rfl)); (case q186 => exact fun _ _ _ h => h); (case w186 => rfl); (case y186 => (intro w' hSw; (try dsimp only at hSw); go_simp; (try with_reducible rfl))); (try simp only [Act.put, s1, s2, s3]))
  (refine wpAnyH_ready (rs := [10]) (by kernel_rfl) (by simp) ?_; refine AllReadyH.cons (o := ?o187) ?h187 (fun K hK => ?s187) AllReadyH.nil; (case h187 => (first | ((simp only [g1, g2, g3]); rfl) | rfl)); go_simp; (try dsimp only); refine hK.out _ _ ?_ (fun hHd => ?_); (focus ((try dsimp only); (first | with_reducible assumption | with_reducible exact held_start _ | with_reducible exact held_next (by assumption) (by assumption) | with_reducible exact held_alloc (by assumption) _ | with_reducible exact held_drew (by assumption) | ((with_reducible refine held_kp ?_); (repeat (first | with_reducible assumption | with_reducible exact Kp.refl _ | with_reducible refine Kp.drew ?_ | with_reducible refine Kp.drewN ?_ _ | with_reducible refine Kp.alloc ?_ _ | ((with_reducible refine Kp.setCell ?_ ?_ _); rotate_left; (focus (first | omega | (simp; done) | (simp; omega)))) | with_reducible refine Kp.trans ?_ (by assumption))))))); clear hK K; (try simp only [Act.put, s1, s2, s3]))
  refine wpAnyH_done (by kernel_rfl) ?_ _
  clear hHd
  have bp5 := (((((bp.set 0 (.int .i64 2)).set 1 (.int .i64 n0)).set 2 (.int .i64 0)).set 3 (.int .i64 n1)).set 4 (.int .i64 n2)).drew
  have br5 := (((((br.other (a := ⟨w1.heap.size, 0, none⟩) (by show w.heap.size ≠ w1.heap.size; omega) (.int .i64 2)).other (a := ⟨w1.heap.size, 1, none⟩) (by show w.heap.size ≠ w1.heap.size; omega) (.int .i64 n0)).other (a := ⟨w1.heap.size, 2, none⟩) (by show w.heap.size ≠ w1.heap.size; omega) (.int .i64 0)).other (a := ⟨w1.heap.size, 3, none⟩) (by show w.heap.size ≠ w1.heap.size; omega) (.int .i64 n1)).other (a := ⟨w1.heap.size, 4, none⟩) (by show w.heap.size ≠ w1.heap.size; omega) (.int .i64 n2)).drew
  have kw5 : Kp w (((((w2.setCell ⟨w1.heap.size, 0, none⟩ (.int .i64 2)).setCell ⟨w1.heap.size, 1, none⟩ (.int .i64 n0)).setCell ⟨w1.heap.size, 2, none⟩ (.int .i64 0)).setCell ⟨w1.heap.size, 3, none⟩ (.int .i64 n1)).setCell ⟨w1.heap.size, 4, none⟩ (.int .i64 n2)).drew := (by (repeat (first | with_reducible assumption | with_reducible exact Kp.refl _ | with_reducible refine Kp.drew ?_ | with_reducible refine Kp.drewN ?_ _ | with_reducible refine Kp.alloc ?_ _ | ((with_reducible refine Kp.setCell ?_ ?_ _); rotate_left; (focus (first | omega | (simp; done) | (simp; omega)))) | with_reducible refine Kp.trans ?_ (by assumption))))
  clear f0 z0 f1 z1 f2 z2 f3 z3 f4 z4 d0 d1 d2 d3 d4 br bp
  generalize (((((w2.setCell ⟨w1.heap.size, 0, none⟩ (.int .i64 2)).setCell ⟨w1.heap.size, 1, none⟩ (.int .i64 n0)).setCell ⟨w1.heap.size, 2, none⟩ (.int .i64 0)).setCell ⟨w1.heap.size, 3, none⟩ (.int .i64 n1)).setCell ⟨w1.heap.size, 4, none⟩ (.int .i64 n2)).drew = w5 at bp5 br5 kw5 ⊢
  have z0 := bp5.cell 0 rfl
  have z1 := bp5.cell 1 rfl
  have z2 := bp5.cell 2 rfl
  have z3 := bp5.cell 3 rfl
  have z4 := bp5.cell 4 rfl
  have f0 := br5.free 0
  have y0 := br5.cell 0 rfl
  have f1 := br5.free 1
  have y1 := br5.cell 1 rfl
  have f2 := br5.free 2
  have y2 := br5.cell 2 rfl
  have f3 := br5.free 3
  have y3 := br5.cell 3 rfl
  have f4 := br5.free 4
  have y4 := br5.cell 4 rfl
  have f5 := br5.free 5
  have y5 := br5.cell 5 rfl
  go_wp2_with fail
  refine (CP.out _).mono ?_
  rintro e w6 ⟨rfl, k6⟩
  have kw6 := kw5.trans k6
  have br6 := br5.kp k6
  have bp6 := bp5.kp k6
  clear z0 z1 z2 z3 z4 f0 f1 f2 f3 f4 f5 y0 y1 y2 y3 y4 y5 k6 bp5 br5 kw5
  have z0 := bp6.cell 0 rfl
  have z1 := bp6.cell 1 rfl
  have z2 := bp6.cell 2 rfl
  have z3 := bp6.cell 3 rfl
  have z4 := bp6.cell 4 rfl
  have f0 := br6.free 0
  have y0 := br6.cell 0 rfl
  have f1 := br6.free 1
  have y1 := br6.cell 1 rfl
  have f2 := br6.free 2
  have y2 := br6.cell 2 rfl
  have f3 := br6.free 3
  have y3 := br6.cell 3 rfl
  have f4 := br6.free 4
  have y4 := br6.cell 4 rfl
  have f5 := br6.free 5
  have y5 := br6.cell 5 rfl
  by_cases hts : T = s
  · have t0 : (T == s) = true := beq_iff_eq.2 hts
    have HTS := Lib.hid hts
    clear hts
    go_wp2_with fail
    have zz := ((((((br6.set 0 (.int .i64 2)).set 1 (.int .i64 n0)).set 2 (.int .i64 0)).set 3 (.int .i64 n1)).set 4 (.int .i64 n2)).set 5 (.bool true))
    have x0 := zz.cell 0 rfl
    have x1 := zz.cell 1 rfl
    have x2 := zz.cell 2 rfl
    have x3 := zz.cell 3 rfl
    have x4 := zz.cell 4 rfl
    have x5 := zz.cell 5 rfl
    clear y0 y1 y2 y3 y4 y5
    refine bodyPost_ret (v := .agg #[.int .i64 2, .int .i64 n0, .int .i64 0, .int .i64 n1, .int .i64 n2, .bool true]) (by simp [results, Tryd.results11, go_sem, x0, x1, x2, x3, x4, x5]) rfl ?_
    exact ⟨by first | rfl | (rw [if_pos HTS.out]; rfl), (by (repeat (first | with_reducible assumption | with_reducible exact Kp.refl _ | with_reducible refine Kp.drew ?_ | with_reducible refine Kp.drewN ?_ _ | with_reducible refine Kp.alloc ?_ _ | ((with_reducible refine Kp.setCell ?_ ?_ _); rotate_left; (focus (first | omega | (simp; done) | (simp; omega)))) | with_reducible refine Kp.trans ?_ (by assumption))))⟩
  · have t0 : (T == s) = false := beq_eq_false_iff_ne.2 hts
    have HTS := Lib.hid hts
    clear hts
    go_wp2_with fail
    have zz := ((((((br6.set 0 (.int .i64 0)).set 1 (.int .i64 0)).set 2 (.int .i64 0)).set 3 (.int .i64 0)).set 4 (.int .i64 0)).set 5 (.bool false))
    have x0 := zz.cell 0 rfl
    have x1 := zz.cell 1 rfl
    have x2 := zz.cell 2 rfl
    have x3 := zz.cell 3 rfl
    have x4 := zz.cell 4 rfl
    have x5 := zz.cell 5 rfl
    clear y0 y1 y2 y3 y4 y5
    refine bodyPost_ret (v := .agg #[.int .i64 0, .int .i64 0, .int .i64 0, .int .i64 0, .int .i64 0, .bool false]) (by simp [results, Tryd.results11, go_sem, x0, x1, x2, x3, x4, x5]) rfl ?_
    exact ⟨by first | rfl | (rw [if_neg HTS.out]; rfl), (by (repeat (first | with_reducible assumption | with_reducible exact Kp.refl _ | with_reducible refine Kp.drew ?_ | with_reducible refine Kp.drewN ?_ _ | with_reducible refine Kp.alloc ?_ _ | ((with_reducible refine Kp.setCell ?_ ?_ _); rotate_left; (focus (first | omega | (simp; done) | (simp; omega)))) | with_reducible refine Kp.trans ?_ (by assumption))))⟩
set_option maxRecDepth 100000 in
set_option maxHeartbeats 8000000 in
theorem refPut51_Rule (s : List UInt8) (ws : List (List UInt8)) (hw : splitW s = wRule :: ws) (n0 n1 n2 n3 n4 : Int) (hn : (numsL s)[0]? = some n0 ∧ (numsL s)[1]? = some n1 ∧ (numsL s)[2]? = some n2 ∧ (numsL s)[3]? = some n3 ∧ (numsL s)[4]? = some n4) (hp : Put.ok ⟨3, 0, 0, n0, n1⟩) (hs : s.length ≤ 10000) (w : World) :
    Calls Tryd.prog 11 #[sv s] w fun e w' => e = .returned (if putL ⟨3, 0, 0, n0, n1⟩ = s then gotV ⟨3, 0, 0, n0, n1⟩ true else gotV ⟨0, 0, 0, 0, 0⟩ false) ∧ Kp w w' := by
  have CN := Lib.hid (fun w' => nums_any s hs w')
  have CW := Lib.hid (fun w' => words_any s hs w')
  rw [hw] at CW
  have HN := Lib.hid hn
  have CP := Lib.hid (fun w' => refPut_any ⟨3, 0, 0, n0, n1⟩ hp w')
  obtain ⟨T, hT⟩ : ∃ T, putL ⟨3, 0, 0, n0, n1⟩ = T := ⟨_, rfl⟩
  rw [hT] at CP ⊢
  have h6 := numsL_len s
  clear hn hp hT hw
  go_enter Tryd.func11, Tryd.ntmps11
  go_wp2_with fail
  refine (CN.out _).mono ?_
  rintro e w1 ⟨v1, rfl, hr1, k1⟩
  obtain ⟨a1, c1, rfl, sl1⟩ := hr1.sl (fun _ => rfl)
  have m1 := sl1.2.1
  have m2 := sl1.2.2.1
  unfold maxLen at m2
  rcases sl1.2.2.2 with e | ⟨g, o, rfl, hg, r1⟩
  · rw [e] at h6; simp at h6
  have d0 := r1 0 _ HN.out.1 0 _ rfl
  have d1 := r1 1 _ HN.out.2.1 0 _ rfl
  have d2 := r1 2 _ HN.out.2.2.1 0 _ rfl
  have d3 := r1 3 _ HN.out.2.2.2.1 0 _ rfl
  have d4 := r1 4 _ HN.out.2.2.2.2 0 _ rfl
  simp only [Nat.add_zero, Nat.mul_one] at d0 d1 d2 d3 d4
  have br1 : Blk w1 w.heap.size [.int .i64 0, .int .i64 0, .int .i64 0, .int .i64 0, .int .i64 0, .bool false] 37 := Blk.kp (by (repeat (first | with_reducible assumption | ((with_reducible refine Blk.newL ?_ ?_); (focus (first | (simp; done) | omega)); rfl) | with_reducible refine Blk.drew ?_ | with_reducible refine Blk.drewN ?_ _ | with_reducible refine Blk.alloc ?_ _ | ((with_reducible refine Blk.other ?_ ?_ _); rotate_left; (focus (first | with_reducible assumption | omega | (simp; done) | (simp; omega))))))) k1
  have kw1 : Kp w w1 := ((by (repeat (first | with_reducible assumption | with_reducible exact Kp.refl _ | with_reducible refine Kp.drew ?_ | with_reducible refine Kp.drewN ?_ _ | with_reducible refine Kp.alloc ?_ _ | ((with_reducible refine Kp.setCell ?_ ?_ _); rotate_left; (focus (first | omega | (simp; done) | (simp; omega)))) | with_reducible refine Kp.trans ?_ (by assumption)))) : Kp w _).trans k1
  obtain ⟨L, hL⟩ : ∃ L, (numsL s).length = L := ⟨_, rfl⟩
  rw [hL] at h6 m1 ⊢
  have l0 : 0 < L := by omega
  have l1 : (1 : Int) < (L : Int) := by omega
  have l2 : (2 : Int) < (L : Int) := by omega
  have l3 : (3 : Int) < (L : Int) := by omega
  have l4 : (4 : Int) < (L : Int) := by omega
  clear hr1 sl1 r1 k1 hL HN CN
  go_wp2_with fail
  refine (CW.out _).mono ?_
  rintro e w2 ⟨v2, rfl, hr2, k2⟩
  obtain ⟨a2, c2, rfl, sl2⟩ := hr2.sl (fun _ => rfl)
  have m3 := sl2.2.1
  have m4 := sl2.2.2.1
  unfold maxLen at m4
  rcases sl2.2.2.2 with e | ⟨g2', o2, rfl, hg2, r2⟩
  · cases e
  have q0 := r2 0 _ rfl 0 _ rfl
  simp only [Nat.add_zero, Nat.mul_one] at q0
  have kw2 : Kp w1 w2 := ((by (repeat (first | with_reducible assumption | with_reducible exact Kp.refl _ | with_reducible refine Kp.drew ?_ | with_reducible refine Kp.drewN ?_ _ | with_reducible refine Kp.alloc ?_ _ | ((with_reducible refine Kp.setCell ?_ ?_ _); rotate_left; (focus (first | omega | (simp; done) | (simp; omega)))) | with_reducible refine Kp.trans ?_ (by assumption)))) : Kp w1 _).trans k2
  have br := br1.kp kw2
  have bp : Blk w2 w1.heap.size [.int .i64 0, .int .i64 0, .int .i64 0, .int .i64 0, .int .i64 0] 33 := Blk.kp (by (repeat (first | with_reducible assumption | ((with_reducible refine Blk.newL ?_ ?_); (focus (first | (simp; done) | omega)); rfl) | with_reducible refine Blk.drew ?_ | with_reducible refine Blk.drewN ?_ _ | with_reducible refine Blk.alloc ?_ _ | ((with_reducible refine Blk.other ?_ ?_ _); rotate_left; (focus (first | with_reducible assumption | omega | (simp; done) | (simp; omega))))))) k2
  have brl := br1.lt
  clear hr2 sl2 r2 k2 br1 CW
  have f0 := bp.free 0
  have z0 := bp.cell 0 rfl
  have f1 := bp.free 1
  have z1 := bp.cell 1 rfl
  have f2 := bp.free 2
  have z2 := bp.cell 2 rfl
  have f3 := bp.free 3
  have z3 := bp.cell 3 rfl
  have f4 := bp.free 4
  have z4 := bp.cell 4 rfl
  go_wp2_with fail
  (refine wp_region_held_drew (S := (fun w' => (∀ b o, b < w1.heap.size → w'.cell? ⟨b, o, none⟩ = w1.cell? ⟨b, o, none⟩) ∧ Kp w1 w')) (by kernel_rfl) ?_ (fun hHd => ?_); (focus ((try dsimp only); (first | with_reducible assumption | with_reducible exact held_start _ | with_reducible exact held_next (by assumption) (by assumption) | with_reducible exact held_alloc (by assumption) _ | with_reducible exact held_drew (by assumption) | ((with_reducible refine held_kp ?_); (repeat (first | with_reducible assumption | with_reducible exact Kp.refl _ | with_reducible refine Kp.drew ?_ | with_reducible refine Kp.drewN ?_ _ | with_reducible refine Kp.alloc ?_ _ | ((with_reducible refine Kp.setCell ?_ ?_ _); rotate_left; (focus (first | omega | (simp; done) | (simp; omega)))) | with_reducible refine Kp.trans ?_ (by assumption))))))))
  (refine takeH (i := 0) (oi := ?o188) (v := ?v188) ?h188 (by kernel_rfl) ?q188 (Or.inl ⟨?w188, ?y188⟩) (by assumption) ?r188; (case h188 => ((simp only [g1, g3]); rfl)); (case q188 => exact fun _ _ _ h => h); (case w188 => rfl); (case y188 => (intro w' hSw; (try dsimp only at hSw); go_simp; (try with_reducible rfl))); (try simp only [Act.put, s1, s2, s3]))
  (refine takeH (i := 1) (oi := ?o189) (v := ?v189) ?h189 (by kernel_rfl) ?q189 (Or.inl ⟨?w189, ?y189⟩) (by assumption) ?r189; (case h189 => ((simp only [g1, g2, g3]); rfl)); (case q189 => exact fun _ _ _ h => h); (case w189 => rfl); (case y189 => (intro w' hSw; (try dsimp only at hSw); go_simp; (try with_reducible rfl))); (try simp only [Act.put, s1, s2, s3]))
  (refine takeH (i := 2) (oi := ?o190) (v := ?v190) ?h190 (by kernel_rfl) ?q190 (Or.inl ⟨?w190, ?y190⟩) (by assumption) ?r190; (case h190 => ((simp only [g1, g2, g3]); rfl)); (case q190 => exact fun _ _ _ h => h); (case w190 => rfl); (case y190 => (intro w' hSw; (try dsimp only at hSw); go_simp; (try with_reducible rfl))); (try simp only [Act.put, s1, s2, s3]))
  (refine takeH (i := 3) (oi := ?o191) (v := ?v191) ?h191 (by kernel_rfl) ?q191 (Or.inl ⟨?w191, ?y191⟩) (by assumption) ?r191; (case h191 => ((simp only [g1, g2, g3]); rfl)); (case q191 => exact fun _ _ _ h => h); (case w191 => rfl); (case y191 => (intro w' hSw; (try dsimp only at hSw); go_simp; (try with_reducible rfl))); (try simp only [Act.put, s1, s2, s3]))
  (refine takeH (i := 4) (oi := ?o192) (v := ?v192) ?h192 (by kernel_rfl) ?q192 (Or.inl ⟨?w192, ?y192⟩) (by assumption) ?r192; (case h192 => ((simp only [g1, g2, g3]); rfl)); (case q192 => exact fun _ _ _ h => h); (case w192 => rfl); (case y192 => (intro w' hSw; (try dsimp only at hSw); go_simp; (try with_reducible rfl))); (try simp only [Act.put, s1, s2, s3]))
  (refine takeH (i := 5) (oi := ?o193) (v := ?v193) ?h193 (by kernel_rfl) ?q193 (Or.inl ⟨?w193, ?y193⟩) (by assumption) ?r193; (case h193 => ((simp only [g1, g2, g3]); rfl)); (case q193 => exact fun _ _ _ h => h); (case w193 => rfl); (case y193 => (intro w' hSw; (try dsimp only at hSw); go_simp; (try with_reducible rfl))); (try simp only [Act.put, s1, s2, s3]))
  (refine takeH (i := 6) (oi := ?o194) (v := ?v194) ?h194 (by kernel_rfl) ?q194 (Or.inl ⟨?w194, ?y194⟩) (by assumption) ?r194; (case h194 => ((simp only [g1, g2, g3]); rfl)); (case q194 => exact fun _ _ _ h => h); (case w194 => rfl); (case y194 => (intro w' hSw; (try dsimp only at hSw); go_simp; (try with_reducible rfl))); (try simp only [Act.put, s1, s2, s3]))
  (refine wpAnyH_ready (rs := [7]) (by kernel_rfl) (by simp) ?_; refine AllReadyH.cons (o := ?o195) ?h195 (fun K hK => ?s195) AllReadyH.nil; (case h195 => (first | ((simp only [g1, g2, g3]); rfl) | rfl)); go_simp; (try dsimp only); refine hK.out _ _ ?_ (fun hHd => ?_); (focus ((try dsimp only); (first | with_reducible assumption | with_reducible exact held_start _ | with_reducible exact held_next (by assumption) (by assumption) | with_reducible exact held_alloc (by assumption) _ | with_reducible exact held_drew (by assumption) | ((with_reducible refine held_kp ?_); (repeat (first | with_reducible assumption | with_reducible exact Kp.refl _ | with_reducible refine Kp.drew ?_ | with_reducible refine Kp.drewN ?_ _ | with_reducible refine Kp.alloc ?_ _ | ((with_reducible refine Kp.setCell ?_ ?_ _); rotate_left; (focus (first | omega | (simp; done) | (simp; omega)))) | with_reducible refine Kp.trans ?_ (by assumption))))))); clear hK K; (try simp only [Act.put, s1, s2, s3]))
  refine wpAnyH_done (by kernel_rfl) ?_ _
  clear hHd
  have bp5 := (((((bp.set 0 (.int .i64 3)).set 1 (.int .i64 0)).set 2 (.int .i64 0)).set 3 (.int .i64 n0)).set 4 (.int .i64 n1)).drew
  have br5 := (((((br.other (a := ⟨w1.heap.size, 0, none⟩) (by show w.heap.size ≠ w1.heap.size; omega) (.int .i64 3)).other (a := ⟨w1.heap.size, 1, none⟩) (by show w.heap.size ≠ w1.heap.size; omega) (.int .i64 0)).other (a := ⟨w1.heap.size, 2, none⟩) (by show w.heap.size ≠ w1.heap.size; omega) (.int .i64 0)).other (a := ⟨w1.heap.size, 3, none⟩) (by show w.heap.size ≠ w1.heap.size; omega) (.int .i64 n0)).other (a := ⟨w1.heap.size, 4, none⟩) (by show w.heap.size ≠ w1.heap.size; omega) (.int .i64 n1)).drew
  have kw5 : Kp w (((((w2.setCell ⟨w1.heap.size, 0, none⟩ (.int .i64 3)).setCell ⟨w1.heap.size, 1, none⟩ (.int .i64 0)).setCell ⟨w1.heap.size, 2, none⟩ (.int .i64 0)).setCell ⟨w1.heap.size, 3, none⟩ (.int .i64 n0)).setCell ⟨w1.heap.size, 4, none⟩ (.int .i64 n1)).drew := (by (repeat (first | with_reducible assumption | with_reducible exact Kp.refl _ | with_reducible refine Kp.drew ?_ | with_reducible refine Kp.drewN ?_ _ | with_reducible refine Kp.alloc ?_ _ | ((with_reducible refine Kp.setCell ?_ ?_ _); rotate_left; (focus (first | omega | (simp; done) | (simp; omega)))) | with_reducible refine Kp.trans ?_ (by assumption))))
  clear f0 z0 f1 z1 f2 z2 f3 z3 f4 z4 d0 d1 d2 d3 d4 br bp
  generalize (((((w2.setCell ⟨w1.heap.size, 0, none⟩ (.int .i64 3)).setCell ⟨w1.heap.size, 1, none⟩ (.int .i64 0)).setCell ⟨w1.heap.size, 2, none⟩ (.int .i64 0)).setCell ⟨w1.heap.size, 3, none⟩ (.int .i64 n0)).setCell ⟨w1.heap.size, 4, none⟩ (.int .i64 n1)).drew = w5 at bp5 br5 kw5 ⊢
  have z0 := bp5.cell 0 rfl
  have z1 := bp5.cell 1 rfl
  have z2 := bp5.cell 2 rfl
  have z3 := bp5.cell 3 rfl
  have z4 := bp5.cell 4 rfl
  have f0 := br5.free 0
  have y0 := br5.cell 0 rfl
  have f1 := br5.free 1
  have y1 := br5.cell 1 rfl
  have f2 := br5.free 2
  have y2 := br5.cell 2 rfl
  have f3 := br5.free 3
  have y3 := br5.cell 3 rfl
  have f4 := br5.free 4
  have y4 := br5.cell 4 rfl
  have f5 := br5.free 5
  have y5 := br5.cell 5 rfl
  go_wp2_with fail
  refine (CP.out _).mono ?_
  rintro e w6 ⟨rfl, k6⟩
  have kw6 := kw5.trans k6
  have br6 := br5.kp k6
  have bp6 := bp5.kp k6
  clear z0 z1 z2 z3 z4 f0 f1 f2 f3 f4 f5 y0 y1 y2 y3 y4 y5 k6 bp5 br5 kw5
  have z0 := bp6.cell 0 rfl
  have z1 := bp6.cell 1 rfl
  have z2 := bp6.cell 2 rfl
  have z3 := bp6.cell 3 rfl
  have z4 := bp6.cell 4 rfl
  have f0 := br6.free 0
  have y0 := br6.cell 0 rfl
  have f1 := br6.free 1
  have y1 := br6.cell 1 rfl
  have f2 := br6.free 2
  have y2 := br6.cell 2 rfl
  have f3 := br6.free 3
  have y3 := br6.cell 3 rfl
  have f4 := br6.free 4
  have y4 := br6.cell 4 rfl
  have f5 := br6.free 5
  have y5 := br6.cell 5 rfl
  by_cases hts : T = s
  · have t0 : (T == s) = true := beq_iff_eq.2 hts
    have HTS := Lib.hid hts
    clear hts
    go_wp2_with fail
    have zz := ((((((br6.set 0 (.int .i64 3)).set 1 (.int .i64 0)).set 2 (.int .i64 0)).set 3 (.int .i64 n0)).set 4 (.int .i64 n1)).set 5 (.bool true))
    have x0 := zz.cell 0 rfl
    have x1 := zz.cell 1 rfl
    have x2 := zz.cell 2 rfl
    have x3 := zz.cell 3 rfl
    have x4 := zz.cell 4 rfl
    have x5 := zz.cell 5 rfl
    clear y0 y1 y2 y3 y4 y5
    refine bodyPost_ret (v := .agg #[.int .i64 3, .int .i64 0, .int .i64 0, .int .i64 n0, .int .i64 n1, .bool true]) (by simp [results, Tryd.results11, go_sem, x0, x1, x2, x3, x4, x5]) rfl ?_
    exact ⟨by first | rfl | (rw [if_pos HTS.out]; rfl), (by (repeat (first | with_reducible assumption | with_reducible exact Kp.refl _ | with_reducible refine Kp.drew ?_ | with_reducible refine Kp.drewN ?_ _ | with_reducible refine Kp.alloc ?_ _ | ((with_reducible refine Kp.setCell ?_ ?_ _); rotate_left; (focus (first | omega | (simp; done) | (simp; omega)))) | with_reducible refine Kp.trans ?_ (by assumption))))⟩
  · have t0 : (T == s) = false := beq_eq_false_iff_ne.2 hts
    have HTS := Lib.hid hts
    clear hts
    go_wp2_with fail
    have zz := ((((((br6.set 0 (.int .i64 0)).set 1 (.int .i64 0)).set 2 (.int .i64 0)).set 3 (.int .i64 0)).set 4 (.int .i64 0)).set 5 (.bool false))
    have x0 := zz.cell 0 rfl
    have x1 := zz.cell 1 rfl
    have x2 := zz.cell 2 rfl
    have x3 := zz.cell 3 rfl
    have x4 := zz.cell 4 rfl
    have x5 := zz.cell 5 rfl
    clear y0 y1 y2 y3 y4 y5
    refine bodyPost_ret (v := .agg #[.int .i64 0, .int .i64 0, .int .i64 0, .int .i64 0, .int .i64 0, .bool false]) (by simp [results, Tryd.results11, go_sem, x0, x1, x2, x3, x4, x5]) rfl ?_
    exact ⟨by first | rfl | (rw [if_neg HTS.out]; rfl), (by (repeat (first | with_reducible assumption | with_reducible exact Kp.refl _ | with_reducible refine Kp.drew ?_ | with_reducible refine Kp.drewN ?_ _ | with_reducible refine Kp.alloc ?_ _ | ((with_reducible refine Kp.setCell ?_ ?_ _); rotate_left; (focus (first | omega | (simp; done) | (simp; omega)))) | with_reducible refine Kp.trans ?_ (by assumption))))⟩
set_option maxRecDepth 100000 in
set_option maxHeartbeats 8000000 in
theorem refPut51_Line (s : List UInt8) (ws : List (List UInt8)) (hw : splitW s = wLine :: ws) (n0 n1 n2 n3 n4 : Int) (hn : (numsL s)[0]? = some n0 ∧ (numsL s)[1]? = some n1 ∧ (numsL s)[2]? = some n2 ∧ (numsL s)[3]? = some n3 ∧ (numsL s)[4]? = some n4) (hp : Put.ok ⟨4, n0, n1, n2, n3⟩) (hs : s.length ≤ 10000) (w : World) :
    Calls Tryd.prog 11 #[sv s] w fun e w' => e = .returned (if putL ⟨4, n0, n1, n2, n3⟩ = s then gotV ⟨4, n0, n1, n2, n3⟩ true else gotV ⟨0, 0, 0, 0, 0⟩ false) ∧ Kp w w' := by
  have CN := Lib.hid (fun w' => nums_any s hs w')
  have CW := Lib.hid (fun w' => words_any s hs w')
  rw [hw] at CW
  have HN := Lib.hid hn
  have CP := Lib.hid (fun w' => refPut_any ⟨4, n0, n1, n2, n3⟩ hp w')
  obtain ⟨T, hT⟩ : ∃ T, putL ⟨4, n0, n1, n2, n3⟩ = T := ⟨_, rfl⟩
  rw [hT] at CP ⊢
  have h6 := numsL_len s
  clear hn hp hT hw
  go_enter Tryd.func11, Tryd.ntmps11
  go_wp2_with fail
  refine (CN.out _).mono ?_
  rintro e w1 ⟨v1, rfl, hr1, k1⟩
  obtain ⟨a1, c1, rfl, sl1⟩ := hr1.sl (fun _ => rfl)
  have m1 := sl1.2.1
  have m2 := sl1.2.2.1
  unfold maxLen at m2
  rcases sl1.2.2.2 with e | ⟨g, o, rfl, hg, r1⟩
  · rw [e] at h6; simp at h6
  have d0 := r1 0 _ HN.out.1 0 _ rfl
  have d1 := r1 1 _ HN.out.2.1 0 _ rfl
  have d2 := r1 2 _ HN.out.2.2.1 0 _ rfl
  have d3 := r1 3 _ HN.out.2.2.2.1 0 _ rfl
  have d4 := r1 4 _ HN.out.2.2.2.2 0 _ rfl
  simp only [Nat.add_zero, Nat.mul_one] at d0 d1 d2 d3 d4
  have br1 : Blk w1 w.heap.size [.int .i64 0, .int .i64 0, .int .i64 0, .int .i64 0, .int .i64 0, .bool false] 37 := Blk.kp (by (repeat (first | with_reducible assumption | ((with_reducible refine Blk.newL ?_ ?_); (focus (first | (simp; done) | omega)); rfl) | with_reducible refine Blk.drew ?_ | with_reducible refine Blk.drewN ?_ _ | with_reducible refine Blk.alloc ?_ _ | ((with_reducible refine Blk.other ?_ ?_ _); rotate_left; (focus (first | with_reducible assumption | omega | (simp; done) | (simp; omega))))))) k1
  have kw1 : Kp w w1 := ((by (repeat (first | with_reducible assumption | with_reducible exact Kp.refl _ | with_reducible refine Kp.drew ?_ | with_reducible refine Kp.drewN ?_ _ | with_reducible refine Kp.alloc ?_ _ | ((with_reducible refine Kp.setCell ?_ ?_ _); rotate_left; (focus (first | omega | (simp; done) | (simp; omega)))) | with_reducible refine Kp.trans ?_ (by assumption)))) : Kp w _).trans k1
  obtain ⟨L, hL⟩ : ∃ L, (numsL s).length = L := ⟨_, rfl⟩
  rw [hL] at h6 m1 ⊢
  have l0 : 0 < L := by omega
  have l1 : (1 : Int) < (L : Int) := by omega
  have l2 : (2 : Int) < (L : Int) := by omega
  have l3 : (3 : Int) < (L : Int) := by omega
  have l4 : (4 : Int) < (L : Int) := by omega
  clear hr1 sl1 r1 k1 hL HN CN
  go_wp2_with fail
  refine (CW.out _).mono ?_
  rintro e w2 ⟨v2, rfl, hr2, k2⟩
  obtain ⟨a2, c2, rfl, sl2⟩ := hr2.sl (fun _ => rfl)
  have m3 := sl2.2.1
  have m4 := sl2.2.2.1
  unfold maxLen at m4
  rcases sl2.2.2.2 with e | ⟨g2', o2, rfl, hg2, r2⟩
  · cases e
  have q0 := r2 0 _ rfl 0 _ rfl
  simp only [Nat.add_zero, Nat.mul_one] at q0
  have kw2 : Kp w1 w2 := ((by (repeat (first | with_reducible assumption | with_reducible exact Kp.refl _ | with_reducible refine Kp.drew ?_ | with_reducible refine Kp.drewN ?_ _ | with_reducible refine Kp.alloc ?_ _ | ((with_reducible refine Kp.setCell ?_ ?_ _); rotate_left; (focus (first | omega | (simp; done) | (simp; omega)))) | with_reducible refine Kp.trans ?_ (by assumption)))) : Kp w1 _).trans k2
  have br := br1.kp kw2
  have bp : Blk w2 w1.heap.size [.int .i64 0, .int .i64 0, .int .i64 0, .int .i64 0, .int .i64 0] 33 := Blk.kp (by (repeat (first | with_reducible assumption | ((with_reducible refine Blk.newL ?_ ?_); (focus (first | (simp; done) | omega)); rfl) | with_reducible refine Blk.drew ?_ | with_reducible refine Blk.drewN ?_ _ | with_reducible refine Blk.alloc ?_ _ | ((with_reducible refine Blk.other ?_ ?_ _); rotate_left; (focus (first | with_reducible assumption | omega | (simp; done) | (simp; omega))))))) k2
  have brl := br1.lt
  clear hr2 sl2 r2 k2 br1 CW
  have f0 := bp.free 0
  have z0 := bp.cell 0 rfl
  have f1 := bp.free 1
  have z1 := bp.cell 1 rfl
  have f2 := bp.free 2
  have z2 := bp.cell 2 rfl
  have f3 := bp.free 3
  have z3 := bp.cell 3 rfl
  have f4 := bp.free 4
  have z4 := bp.cell 4 rfl
  go_wp2_with fail
  (refine wp_region_held_drew (S := (fun w' => (∀ b o, b < w1.heap.size → w'.cell? ⟨b, o, none⟩ = w1.cell? ⟨b, o, none⟩) ∧ Kp w1 w')) (by kernel_rfl) ?_ (fun hHd => ?_); (focus ((try dsimp only); (first | with_reducible assumption | with_reducible exact held_start _ | with_reducible exact held_next (by assumption) (by assumption) | with_reducible exact held_alloc (by assumption) _ | with_reducible exact held_drew (by assumption) | ((with_reducible refine held_kp ?_); (repeat (first | with_reducible assumption | with_reducible exact Kp.refl _ | with_reducible refine Kp.drew ?_ | with_reducible refine Kp.drewN ?_ _ | with_reducible refine Kp.alloc ?_ _ | ((with_reducible refine Kp.setCell ?_ ?_ _); rotate_left; (focus (first | omega | (simp; done) | (simp; omega)))) | with_reducible refine Kp.trans ?_ (by assumption))))))))
  (refine takeH (i := 0) (oi := ?o196) (v := ?v196) ?h196 (by kernel_rfl) ?q196 (Or.inl ⟨?w196, ?y196⟩) (by assumption) ?r196; (case h196 => ((simp only [g1, g3]); rfl)); (case q196 => exact fun _ _ _ h => h); (case w196 => rfl); (case y196 => (intro w' hSw; (try dsimp only at hSw); go_simp; (try with_reducible rfl))); (try simp only [Act.put, s1, s2, s3]))
  (refine takeH (i := 1) (oi := ?o197) (v := ?v197) ?h197 (by kernel_rfl) ?q197 (Or.inl ⟨?w197, ?y197⟩) (by assumption) ?r197; (case h197 => ((simp only [g1, g2, g3]); rfl)); (case q197 => exact fun _ _ _ h => h); (case w197 => rfl); (case y197 => (intro w' hSw; (try dsimp only at hSw); go_simp; (try with_reducible rfl))); (try simp only [Act.put, s1, s2, s3]))
  (refine takeH (i := 2) (oi := ?o198) (v := ?v198) ?h198 (by kernel_rfl) ?q198 (Or.inl ⟨?w198, ?y198⟩) (by assumption) ?r198; (case h198 => ((simp only [g1, g2, g3]); rfl)); (case q198 => exact fun _ _ _ h => h); (case w198 => rfl); (case y198 => (intro w' hSw; (try dsimp only at hSw); go_simp; (try with_reducible rfl))); (try simp only [Act.put, s1, s2, s3]))
  (refine takeH (i := 3) (oi := ?o199) (v := ?v199) ?h199 (by kernel_rfl) ?q199 (Or.inl ⟨?w199, ?y199⟩) (by assumption) ?r199; (case h199 => ((simp only [g1, g2, g3]); rfl)); (case q199 => exact fun _ _ _ h => h); (case w199 => rfl); (case y199 => (intro w' hSw; (try dsimp only at hSw); go_simp; (try with_reducible rfl))); (try simp only [Act.put, s1, s2, s3]))
  (refine takeH (i := 4) (oi := ?o200) (v := ?v200) ?h200 (by kernel_rfl) ?q200 (Or.inl ⟨?w200, ?y200⟩) (by assumption) ?r200; (case h200 => ((simp only [g1, g2, g3]); rfl)); (case q200 => exact fun _ _ _ h => h); (case w200 => rfl); (case y200 => (intro w' hSw; (try dsimp only at hSw); go_simp; (try with_reducible rfl))); (try simp only [Act.put, s1, s2, s3]))
  (refine takeH (i := 5) (oi := ?o201) (v := ?v201) ?h201 (by kernel_rfl) ?q201 (Or.inl ⟨?w201, ?y201⟩) (by assumption) ?r201; (case h201 => ((simp only [g1, g2, g3]); rfl)); (case q201 => exact fun _ _ _ h => h); (case w201 => rfl); (case y201 => (intro w' hSw; (try dsimp only at hSw); go_simp; (try with_reducible rfl))); (try simp only [Act.put, s1, s2, s3]))
  (refine takeH (i := 6) (oi := ?o202) (v := ?v202) ?h202 (by kernel_rfl) ?q202 (Or.inl ⟨?w202, ?y202⟩) (by assumption) ?r202; (case h202 => ((simp only [g1, g2, g3]); rfl)); (case q202 => exact fun _ _ _ h => h); (case w202 => rfl); (case y202 => (intro w' hSw; (try dsimp only at hSw); go_simp; (try with_reducible rfl))); (try simp only [Act.put, s1, s2, s3]))
  (refine takeH (i := 7) (oi := ?o203) (v := ?v203) ?h203 (by kernel_rfl) ?q203 (Or.inl ⟨?w203, ?y203⟩) (by assumption) ?r203; (case h203 => ((simp only [g1, g2, g3]); rfl)); (case q203 => exact fun _ _ _ h => h); (case w203 => rfl); (case y203 => (intro w' hSw; (try dsimp only at hSw); go_simp; (try with_reducible rfl))); (try simp only [Act.put, s1, s2, s3]))
  (refine takeH (i := 8) (oi := ?o204) (v := ?v204) ?h204 (by kernel_rfl) ?q204 (Or.inl ⟨?w204, ?y204⟩) (by assumption) ?r204; (case h204 => ((simp only [g1, g2, g3]); rfl)); (case q204 => exact fun _ _ _ h => h); (case w204 => rfl); (case y204 => (intro w' hSw; (try dsimp only at hSw); go_simp; (try with_reducible rfl))); (try simp only [Act.put, s1, s2, s3]))
  (refine takeH (i := 9) (oi := ?o205) (v := ?v205) ?h205 (by kernel_rfl) ?q205 (Or.inl ⟨?w205, ?y205⟩) (by assumption) ?r205; (case h205 => ((simp only [g1, g2, g3]); rfl)); (case q205 => exact fun _ _ _ h => h); (case w205 => rfl); (case y205 => (intro w' hSw; (try dsimp only at hSw); go_simp; (try with_reducible rfl))); (try simp only [Act.put, s1, s2, s3]))
  (refine takeH (i := 10) (oi := ?o206) (v := ?v206) ?h206 (by kernel_rfl) ?q206 (Or.inl ⟨?w206, ?y206⟩) (by assumption) ?r206; (case h206 => ((simp only [g1, g2, g3]); rfl)); (case q206 => exact fun _ _ _ h => h); (case w206 => rfl); (case y206 => (intro w' hSw; (try dsimp only at hSw); go_simp; (try with_reducible rfl))); (try simp only [Act.put, s1, s2, s3]))
  (refine takeH (i := 11) (oi := ?o207) (v := ?v207) ?h207 (by kernel_rfl) ?q207 (Or.inl ⟨?w207, ?y207⟩) (by assumption) ?r207; (case h207 => ((simp only [g1, g2, g3]); rfl)); (case q207 => exact fun _ _ _ h => h); (case w207 => rfl); (case y207 => (intro w' hSw; (try dsimp only at hSw); go_simp; (try with_reducible rfl))); (try simp only [Act.put, s1, s2, s3]))
  (refine takeH (i := 12) (oi := ?o208) (v := ?v208) ?h208 (by kernel_rfl) ?q208 (Or.inl ⟨?w208, ?y208⟩) (by assumption) ?r208; (case h208 => ((simp only [g1, g2, g3]); rfl)); (case q208 => exact fun _ _ _ h => h); (case w208 => rfl); (case y208 => (intro w' hSw; (try dsimp only at hSw); go_simp; (try with_reducible rfl))); (try simp only [Act.put, s1, s2, s3]))
  (refine wpAnyH_ready (rs := [13]) (by kernel_rfl) (by simp) ?_; refine AllReadyH.cons (o := ?o209) ?h209 (fun K hK => ?s209) AllReadyH.nil; (case h209 => (first | ((simp only [g1, g2, g3]); rfl) | rfl)); go_simp; (try dsimp only); refine hK.out _ _ ?_ (fun hHd => ?_); (focus ((try dsimp only); (first | with_reducible assumption | with_reducible exact held_start _ | with_reducible exact held_next (by assumption) (by assumption) | with_reducible exact held_alloc (by assumption) _ | with_reducible exact held_drew (by assumption) | ((with_reducible refine held_kp ?_); (repeat (first | with_reducible assumption | with_reducible exact Kp.refl _ | with_reducible refine Kp.drew ?_ | with_reducible refine Kp.drewN ?_ _ | with_reducible refine Kp.alloc ?_ _ | ((with_reducible refine Kp.setCell ?_ ?_ _); rotate_left; (focus (first | omega | (simp; done) | (simp; omega)))) | with_reducible refine Kp.trans ?_ (by assumption))))))); clear hK K; (try simp only [Act.put, s1, s2, s3]))
  refine wpAnyH_done (by kernel_rfl) ?_ _
  clear hHd
  have bp5 := (((((bp.set 0 (.int .i64 4)).set 1 (.int .i64 n0)).set 2 (.int .i64 n1)).set 3 (.int .i64 n2)).set 4 (.int .i64 n3)).drew
  have br5 := (((((br.other (a := ⟨w1.heap.size, 0, none⟩) (by show w.heap.size ≠ w1.heap.size; omega) (.int .i64 4)).other (a := ⟨w1.heap.size, 1, none⟩) (by show w.heap.size ≠ w1.heap.size; omega) (.int .i64 n0)).other (a := ⟨w1.heap.size, 2, none⟩) (by show w.heap.size ≠ w1.heap.size; omega) (.int .i64 n1)).other (a := ⟨w1.heap.size, 3, none⟩) (by show w.heap.size ≠ w1.heap.size; omega) (.int .i64 n2)).other (a := ⟨w1.heap.size, 4, none⟩) (by show w.heap.size ≠ w1.heap.size; omega) (.int .i64 n3)).drew
  have kw5 : Kp w (((((w2.setCell ⟨w1.heap.size, 0, none⟩ (.int .i64 4)).setCell ⟨w1.heap.size, 1, none⟩ (.int .i64 n0)).setCell ⟨w1.heap.size, 2, none⟩ (.int .i64 n1)).setCell ⟨w1.heap.size, 3, none⟩ (.int .i64 n2)).setCell ⟨w1.heap.size, 4, none⟩ (.int .i64 n3)).drew := (by (repeat (first | with_reducible assumption | with_reducible exact Kp.refl _ | with_reducible refine Kp.drew ?_ | with_reducible refine Kp.drewN ?_ _ | with_reducible refine Kp.alloc ?_ _ | ((with_reducible refine Kp.setCell ?_ ?_ _); rotate_left; (focus (first | omega | (simp; done) | (simp; omega)))) | with_reducible refine Kp.trans ?_ (by assumption))))
  clear f0 z0 f1 z1 f2 z2 f3 z3 f4 z4 d0 d1 d2 d3 d4 br bp
  generalize (((((w2.setCell ⟨w1.heap.size, 0, none⟩ (.int .i64 4)).setCell ⟨w1.heap.size, 1, none⟩ (.int .i64 n0)).setCell ⟨w1.heap.size, 2, none⟩ (.int .i64 n1)).setCell ⟨w1.heap.size, 3, none⟩ (.int .i64 n2)).setCell ⟨w1.heap.size, 4, none⟩ (.int .i64 n3)).drew = w5 at bp5 br5 kw5 ⊢
  have z0 := bp5.cell 0 rfl
  have z1 := bp5.cell 1 rfl
  have z2 := bp5.cell 2 rfl
  have z3 := bp5.cell 3 rfl
  have z4 := bp5.cell 4 rfl
  have f0 := br5.free 0
  have y0 := br5.cell 0 rfl
  have f1 := br5.free 1
  have y1 := br5.cell 1 rfl
  have f2 := br5.free 2
  have y2 := br5.cell 2 rfl
  have f3 := br5.free 3
  have y3 := br5.cell 3 rfl
  have f4 := br5.free 4
  have y4 := br5.cell 4 rfl
  have f5 := br5.free 5
  have y5 := br5.cell 5 rfl
  go_wp2_with fail
  refine (CP.out _).mono ?_
  rintro e w6 ⟨rfl, k6⟩
  have kw6 := kw5.trans k6
  have br6 := br5.kp k6
  have bp6 := bp5.kp k6
  clear z0 z1 z2 z3 z4 f0 f1 f2 f3 f4 f5 y0 y1 y2 y3 y4 y5 k6 bp5 br5 kw5
  have z0 := bp6.cell 0 rfl
  have z1 := bp6.cell 1 rfl
  have z2 := bp6.cell 2 rfl
  have z3 := bp6.cell 3 rfl
  have z4 := bp6.cell 4 rfl
  have f0 := br6.free 0
  have y0 := br6.cell 0 rfl
  have f1 := br6.free 1
  have y1 := br6.cell 1 rfl
  have f2 := br6.free 2
  have y2 := br6.cell 2 rfl
  have f3 := br6.free 3
  have y3 := br6.cell 3 rfl
  have f4 := br6.free 4
  have y4 := br6.cell 4 rfl
  have f5 := br6.free 5
  have y5 := br6.cell 5 rfl
  by_cases hts : T = s
  · have t0 : (T == s) = true := beq_iff_eq.2 hts
    have HTS := Lib.hid hts
    clear hts
    go_wp2_with fail
    have zz := ((((((br6.set 0 (.int .i64 4)).set 1 (.int .i64 n0)).set 2 (.int .i64 n1)).set 3 (.int .i64 n2)).set 4 (.int .i64 n3)).set 5 (.bool true))
    have x0 := zz.cell 0 rfl
    have x1 := zz.cell 1 rfl
    have x2 := zz.cell 2 rfl
    have x3 := zz.cell 3 rfl
    have x4 := zz.cell 4 rfl
    have x5 := zz.cell 5 rfl
    clear y0 y1 y2 y3 y4 y5
    refine bodyPost_ret (v := .agg #[.int .i64 4, .int .i64 n0, .int .i64 n1, .int .i64 n2, .int .i64 n3, .bool true]) (by simp [results, Tryd.results11, go_sem, x0, x1, x2, x3, x4, x5]) rfl ?_
    exact ⟨by first | rfl | (rw [if_pos HTS.out]; rfl), (by (repeat (first | with_reducible assumption | with_reducible exact Kp.refl _ | with_reducible refine Kp.drew ?_ | with_reducible refine Kp.drewN ?_ _ | with_reducible refine Kp.alloc ?_ _ | ((with_reducible refine Kp.setCell ?_ ?_ _); rotate_left; (focus (first | omega | (simp; done) | (simp; omega)))) | with_reducible refine Kp.trans ?_ (by assumption))))⟩
  · have t0 : (T == s) = false := beq_eq_false_iff_ne.2 hts
    have HTS := Lib.hid hts
    clear hts
    go_wp2_with fail
    have zz := ((((((br6.set 0 (.int .i64 0)).set 1 (.int .i64 0)).set 2 (.int .i64 0)).set 3 (.int .i64 0)).set 4 (.int .i64 0)).set 5 (.bool false))
    have x0 := zz.cell 0 rfl
    have x1 := zz.cell 1 rfl
    have x2 := zz.cell 2 rfl
    have x3 := zz.cell 3 rfl
    have x4 := zz.cell 4 rfl
    have x5 := zz.cell 5 rfl
    clear y0 y1 y2 y3 y4 y5
    refine bodyPost_ret (v := .agg #[.int .i64 0, .int .i64 0, .int .i64 0, .int .i64 0, .int .i64 0, .bool false]) (by simp [results, Tryd.results11, go_sem, x0, x1, x2, x3, x4, x5]) rfl ?_
    exact ⟨by first | rfl | (rw [if_neg HTS.out]; rfl), (by (repeat (first | with_reducible assumption | with_reducible exact Kp.refl _ | with_reducible refine Kp.drew ?_ | with_reducible refine Kp.drewN ?_ _ | with_reducible refine Kp.alloc ?_ _ | ((with_reducible refine Kp.setCell ?_ ?_ _); rotate_left; (focus (first | omega | (simp; done) | (simp; omega)))) | with_reducible refine Kp.trans ?_ (by assumption))))⟩
set_option maxRecDepth 100000 in
set_option maxHeartbeats 8000000 in
theorem refPut51_Other (s : List UInt8) (w0 : List UInt8) (ws : List (List UInt8)) (hw : splitW s = w0 :: ws) (h0 : w0 ≠ wBox) (h1 : w0 ≠ wFloat) (h2 : w0 ≠ wRule) (h3 : w0 ≠ wLine) (n0 n1 n2 n3 n4 : Int) (hn : (numsL s)[0]? = some n0 ∧ (numsL s)[1]? = some n1 ∧ (numsL s)[2]? = some n2 ∧ (numsL s)[3]? = some n3 ∧ (numsL s)[4]? = some n4) (hp : Put.ok ⟨n0, n1, n2, n3, n4⟩) (hs : s.length ≤ 10000) (w : World) :
    Calls Tryd.prog 11 #[sv s] w fun e w' => e = .returned (if putL ⟨n0, n1, n2, n3, n4⟩ = s then gotV ⟨n0, n1, n2, n3, n4⟩ true else gotV ⟨0, 0, 0, 0, 0⟩ false) ∧ Kp w w' := by
  have e0 : (w0 == [98, 111, 120]) = false := beq_eq_false_iff_ne.2 h0
  have e1 : (w0 == [102, 108, 111, 97, 116]) = false := beq_eq_false_iff_ne.2 h1
  have e2 : (w0 == [114, 117, 108, 101]) = false := beq_eq_false_iff_ne.2 h2
  have e3 : (w0 == [108, 105, 110, 101]) = false := beq_eq_false_iff_ne.2 h3
  have CN := Lib.hid (fun w' => nums_any s hs w')
  have CW := Lib.hid (fun w' => words_any s hs w')
  rw [hw] at CW
  have HN := Lib.hid hn
  have CP := Lib.hid (fun w' => refPut_any ⟨n0, n1, n2, n3, n4⟩ hp w')
  obtain ⟨T, hT⟩ : ∃ T, putL ⟨n0, n1, n2, n3, n4⟩ = T := ⟨_, rfl⟩
  rw [hT] at CP ⊢
  have h6 := numsL_len s
  clear hn hp hT hw
  go_enter Tryd.func11, Tryd.ntmps11
  go_wp2_with fail
  refine (CN.out _).mono ?_
  rintro e w1 ⟨v1, rfl, hr1, k1⟩
  obtain ⟨a1, c1, rfl, sl1⟩ := hr1.sl (fun _ => rfl)
  have m1 := sl1.2.1
  have m2 := sl1.2.2.1
  unfold maxLen at m2
  rcases sl1.2.2.2 with e | ⟨g, o, rfl, hg, r1⟩
  · rw [e] at h6; simp at h6
  have d0 := r1 0 _ HN.out.1 0 _ rfl
  have d1 := r1 1 _ HN.out.2.1 0 _ rfl
  have d2 := r1 2 _ HN.out.2.2.1 0 _ rfl
  have d3 := r1 3 _ HN.out.2.2.2.1 0 _ rfl
  have d4 := r1 4 _ HN.out.2.2.2.2 0 _ rfl
  simp only [Nat.add_zero, Nat.mul_one] at d0 d1 d2 d3 d4
  have br1 : Blk w1 w.heap.size [.int .i64 0, .int .i64 0, .int .i64 0, .int .i64 0, .int .i64 0, .bool false] 37 := Blk.kp (by (repeat (first | with_reducible assumption | ((with_reducible refine Blk.newL ?_ ?_); (focus (first | (simp; done) | omega)); rfl) | with_reducible refine Blk.drew ?_ | with_reducible refine Blk.drewN ?_ _ | with_reducible refine Blk.alloc ?_ _ | ((with_reducible refine Blk.other ?_ ?_ _); rotate_left; (focus (first | with_reducible assumption | omega | (simp; done) | (simp; omega))))))) k1
  have kw1 : Kp w w1 := ((by (repeat (first | with_reducible assumption | with_reducible exact Kp.refl _ | with_reducible refine Kp.drew ?_ | with_reducible refine Kp.drewN ?_ _ | with_reducible refine Kp.alloc ?_ _ | ((with_reducible refine Kp.setCell ?_ ?_ _); rotate_left; (focus (first | omega | (simp; done) | (simp; omega)))) | with_reducible refine Kp.trans ?_ (by assumption)))) : Kp w _).trans k1
  obtain ⟨L, hL⟩ : ∃ L, (numsL s).length = L := ⟨_, rfl⟩
  rw [hL] at h6 m1 ⊢
  have l0 : 0 < L := by omega
  have l1 : (1 : Int) < (L : Int) := by omega
  have l2 : (2 : Int) < (L : Int) := by omega
  have l3 : (3 : Int) < (L : Int) := by omega
  have l4 : (4 : Int) < (L : Int) := by omega
  clear hr1 sl1 r1 k1 hL HN CN
  go_wp2_with fail
  refine (CW.out _).mono ?_
  rintro e w2 ⟨v2, rfl, hr2, k2⟩
  obtain ⟨a2, c2, rfl, sl2⟩ := hr2.sl (fun _ => rfl)
  have m3 := sl2.2.1
  have m4 := sl2.2.2.1
  unfold maxLen at m4
  rcases sl2.2.2.2 with e | ⟨g2', o2, rfl, hg2, r2⟩
  · cases e
  have q0 := r2 0 _ rfl 0 _ rfl
  simp only [Nat.add_zero, Nat.mul_one] at q0
  have kw2 : Kp w1 w2 := ((by (repeat (first | with_reducible assumption | with_reducible exact Kp.refl _ | with_reducible refine Kp.drew ?_ | with_reducible refine Kp.drewN ?_ _ | with_reducible refine Kp.alloc ?_ _ | ((with_reducible refine Kp.setCell ?_ ?_ _); rotate_left; (focus (first | omega | (simp; done) | (simp; omega)))) | with_reducible refine Kp.trans ?_ (by assumption)))) : Kp w1 _).trans k2
  have br := br1.kp kw2
  have bp : Blk w2 w1.heap.size [.int .i64 0, .int .i64 0, .int .i64 0, .int .i64 0, .int .i64 0] 33 := Blk.kp (by (repeat (first | with_reducible assumption | ((with_reducible refine Blk.newL ?_ ?_); (focus (first | (simp; done) | omega)); rfl) | with_reducible refine Blk.drew ?_ | with_reducible refine Blk.drewN ?_ _ | with_reducible refine Blk.alloc ?_ _ | ((with_reducible refine Blk.other ?_ ?_ _); rotate_left; (focus (first | with_reducible assumption | omega | (simp; done) | (simp; omega))))))) k2
  have brl := br1.lt
  clear hr2 sl2 r2 k2 br1 CW
  have f0 := bp.free 0
  have z0 := bp.cell 0 rfl
  have f1 := bp.free 1
  have z1 := bp.cell 1 rfl
  have f2 := bp.free 2
  have z2 := bp.cell 2 rfl
  have f3 := bp.free 3
  have z3 := bp.cell 3 rfl
  have f4 := bp.free 4
  have z4 := bp.cell 4 rfl
  go_wp2_with fail
  (refine wp_region_held_drew (S := (fun w' => (∀ b o, b < w1.heap.size → w'.cell? ⟨b, o, none⟩ = w1.cell? ⟨b, o, none⟩) ∧ Kp w1 w')) (by kernel_rfl) ?_ (fun hHd => ?_); (focus ((try dsimp only); (first | with_reducible assumption | with_reducible exact held_start _ | with_reducible exact held_next (by assumption) (by assumption) | with_reducible exact held_alloc (by assumption) _ | with_reducible exact held_drew (by assumption) | ((with_reducible refine held_kp ?_); (repeat (first | with_reducible assumption | with_reducible exact Kp.refl _ | with_reducible refine Kp.drew ?_ | with_reducible refine Kp.drewN ?_ _ | with_reducible refine Kp.alloc ?_ _ | ((with_reducible refine Kp.setCell ?_ ?_ _); rotate_left; (focus (first | omega | (simp; done) | (simp; omega)))) | with_reducible refine Kp.trans ?_ (by assumption))))))))
  (refine takeH (i := 0) (oi := ?o210) (v := ?v210) ?h210 (by kernel_rfl) ?q210 (Or.inl ⟨?w210, ?y210⟩) (by assumption) ?r210; (case h210 => ((simp only [g1, g3]); rfl)); (case q210 => exact fun _ _ _ h => h); (case w210 => rfl); (case y210 => (intro w' hSw; (try dsimp only at hSw); go_simp; (try with_reducible rfl))); (try simp only [Act.put, s1, s2, s3]))
  (refine takeH (i := 1) (oi := ?o211) (v := ?v211) ?h211 (by kernel_rfl) ?q211 (Or.inl ⟨?w211, ?y211⟩) (by assumption) ?r211; (case h211 => ((simp only [g1, g2, g3]); rfl)); (case q211 => exact fun _ _ _ h => h); (case w211 => rfl); (case y211 => (intro w' hSw; (try dsimp only at hSw); go_simp; (try with_reducible rfl))); (try simp only [Act.put, s1, s2, s3]))
  (refine takeH (i := 2) (oi := ?o212) (v := ?v212) ?h212 (by kernel_rfl) ?q212 (Or.inl ⟨?w212, ?y212⟩) (by assumption) ?r212; (case h212 => ((simp only [g1, g2, g3]); rfl)); (case q212 => exact fun _ _ _ h => h); (case w212 => rfl); (case y212 => (intro w' hSw; (try dsimp only at hSw); go_simp; (try with_reducible rfl))); (try simp only [Act.put, s1, s2, s3]))
  (refine takeH (i := 3) (oi := ?o213) (v := ?v213) ?h213 (by kernel_rfl) ?q213 (Or.inl ⟨?w213, ?y213⟩) (by assumption) ?r213; (case h213 => ((simp only [g1, g2, g3]); rfl)); (case q213 => exact fun _ _ _ h => h); (case w213 => rfl); (case y213 => (intro w' hSw; (try dsimp only at hSw); go_simp; (try with_reducible rfl))); (try simp only [Act.put, s1, s2, s3]))
  (refine takeH (i := 4) (oi := ?o214) (v := ?v214) ?h214 (by kernel_rfl) ?q214 (Or.inl ⟨?w214, ?y214⟩) (by assumption) ?r214; (case h214 => ((simp only [g1, g2, g3]); rfl)); (case q214 => exact fun _ _ _ h => h); (case w214 => rfl); (case y214 => (intro w' hSw; (try dsimp only at hSw); go_simp; (try with_reducible rfl))); (try simp only [Act.put, s1, s2, s3]))
  (refine takeH (i := 5) (oi := ?o215) (v := ?v215) ?h215 (by kernel_rfl) ?q215 (Or.inl ⟨?w215, ?y215⟩) (by assumption) ?r215; (case h215 => ((simp only [g1, g2, g3]); rfl)); (case q215 => exact fun _ _ _ h => h); (case w215 => rfl); (case y215 => (intro w' hSw; (try dsimp only at hSw); go_simp; (try with_reducible rfl))); (try simp only [Act.put, s1, s2, s3]))
  (refine takeH (i := 6) (oi := ?o216) (v := ?v216) ?h216 (by kernel_rfl) ?q216 (Or.inl ⟨?w216, ?y216⟩) (by assumption) ?r216; (case h216 => ((simp only [g1, g2, g3]); rfl)); (case q216 => exact fun _ _ _ h => h); (case w216 => rfl); (case y216 => (intro w' hSw; (try dsimp only at hSw); go_simp; (try with_reducible rfl))); (try simp only [Act.put, s1, s2, s3]))
  (refine takeH (i := 7) (oi := ?o217) (v := ?v217) ?h217 (by kernel_rfl) ?q217 (Or.inl ⟨?w217, ?y217⟩) (by assumption) ?r217; (case h217 => ((simp only [g1, g2, g3]); rfl)); (case q217 => exact fun _ _ _ h => h); (case w217 => rfl); (case y217 => (intro w' hSw; (try dsimp only at hSw); go_simp; (try with_reducible rfl))); (try simp only [Act.put, s1, s2, s3]))
  (refine takeH (i := 8) (oi := ?o218) (v := ?v218) ?h218 (by kernel_rfl) ?q218 (Or.inl ⟨?w218, ?y218⟩) (by assumption) ?r218; (case h218 => ((simp only [g1, g2, g3]); rfl)); (case q218 => exact fun _ _ _ h => h); (case w218 => rfl); (case y218 => (intro w' hSw; (try dsimp only at hSw); go_simp; (try with_reducible rfl))); (try simp only [Act.put, s1, s2, s3]))
  (refine takeH (i := 9) (oi := ?o219) (v := ?v219) ?h219 (by kernel_rfl) ?q219 (Or.inl ⟨?w219, ?y219⟩) (by assumption) ?r219; (case h219 => ((simp only [g1, g2, g3]); rfl)); (case q219 => exact fun _ _ _ h => h); (case w219 => rfl); (case y219 => (intro w' hSw; (try dsimp only at hSw); go_simp; (try with_reducible rfl))); (try simp only [Act.put, s1, s2, s3]))
  (refine takeH (i := 10) (oi := ?o220) (v := ?v220) ?h220 (by kernel_rfl) ?q220 (Or.inl ⟨?w220, ?y220⟩) (by assumption) ?r220; (case h220 => ((simp only [g1, g2, g3]); rfl)); (case q220 => exact fun _ _ _ h => h); (case w220 => rfl); (case y220 => (intro w' hSw; (try dsimp only at hSw); go_simp; (try with_reducible rfl))); (try simp only [Act.put, s1, s2, s3]))
  (refine takeH (i := 11) (oi := ?o221) (v := ?v221) ?h221 (by kernel_rfl) ?q221 (Or.inl ⟨?w221, ?y221⟩) (by assumption) ?r221; (case h221 => ((simp only [g1, g2, g3]); rfl)); (case q221 => exact fun _ _ _ h => h); (case w221 => rfl); (case y221 => (intro w' hSw; (try dsimp only at hSw); go_simp; (try with_reducible rfl))); (try simp only [Act.put, s1, s2, s3]))
  (refine takeH (i := 12) (oi := ?o222) (v := ?v222) ?h222 (by kernel_rfl) ?q222 (Or.inl ⟨?w222, ?y222⟩) (by assumption) ?r222; (case h222 => ((simp only [g1, g2, g3]); rfl)); (case q222 => exact fun _ _ _ h => h); (case w222 => rfl); (case y222 => (intro w' hSw; (try dsimp only at hSw); go_simp; (try with_reducible rfl))); (try simp only [Act.put, s1, s2, s3]))
  (refine takeH (i := 13) (oi := ?o223) (v := ?v223) ?h223 (by kernel_rfl) ?q223 (Or.inl ⟨?w223, ?y223⟩) (by assumption) ?r223; (case h223 => ((simp only [g1, g2, g3]); rfl)); (case q223 => exact fun _ _ _ h => h); (case w223 => rfl); (case y223 => (intro w' hSw; (try dsimp only at hSw); go_simp; (try with_reducible rfl))); (try simp only [Act.put, s1, s2, s3]))
  (refine takeH (i := 14) (oi := ?o224) (v := ?v224) ?h224 (by kernel_rfl) ?q224 (Or.inl ⟨?w224, ?y224⟩) (by assumption) ?r224; (case h224 => ((simp only [g1, g2, g3]); rfl)); (case q224 => exact fun _ _ _ h => h); (case w224 => rfl); (case y224 => (intro w' hSw; (try dsimp only at hSw); go_simp; (try with_reducible rfl))); (try simp only [Act.put, s1, s2, s3]))
  (refine takeH (i := 15) (oi := ?o225) (v := ?v225) ?h225 (by kernel_rfl) ?q225 (Or.inl ⟨?w225, ?y225⟩) (by assumption) ?r225; (case h225 => ((simp only [g1, g2, g3]); rfl)); (case q225 => exact fun _ _ _ h => h); (case w225 => rfl); (case y225 => (intro w' hSw; (try dsimp only at hSw); go_simp; (try with_reducible rfl))); (try simp only [Act.put, s1, s2, s3]))
  (refine wpAnyH_ready (rs := [16]) (by kernel_rfl) (by simp) ?_; refine AllReadyH.cons (o := ?o226) ?h226 (fun K hK => ?s226) AllReadyH.nil; (case h226 => (first | ((simp only [g1, g2, g3]); rfl) | rfl)); go_simp; (try dsimp only); refine hK.out _ _ ?_ (fun hHd => ?_); (focus ((try dsimp only); (first | with_reducible assumption | with_reducible exact held_start _ | with_reducible exact held_next (by assumption) (by assumption) | with_reducible exact held_alloc (by assumption) _ | with_reducible exact held_drew (by assumption) | ((with_reducible refine held_kp ?_); (repeat (first | with_reducible assumption | with_reducible exact Kp.refl _ | with_reducible refine Kp.drew ?_ | with_reducible refine Kp.drewN ?_ _ | with_reducible refine Kp.alloc ?_ _ | ((with_reducible refine Kp.setCell ?_ ?_ _); rotate_left; (focus (first | omega | (simp; done) | (simp; omega)))) | with_reducible refine Kp.trans ?_ (by assumption))))))); clear hK K; (try simp only [Act.put, s1, s2, s3]))
  refine wpAnyH_done (by kernel_rfl) ?_ _
  clear hHd
  have bp5 := (((((bp.set 0 (.int .i64 n0)).set 1 (.int .i64 n1)).set 2 (.int .i64 n2)).set 3 (.int .i64 n3)).set 4 (.int .i64 n4)).drew
  have br5 := (((((br.other (a := ⟨w1.heap.size, 0, none⟩) (by show w.heap.size ≠ w1.heap.size; omega) (.int .i64 n0)).other (a := ⟨w1.heap.size, 1, none⟩) (by show w.heap.size ≠ w1.heap.size; omega) (.int .i64 n1)).other (a := ⟨w1.heap.size, 2, none⟩) (by show w.heap.size ≠ w1.heap.size; omega) (.int .i64 n2)).other (a := ⟨w1.heap.size, 3, none⟩) (by show w.heap.size ≠ w1.heap.size; omega) (.int .i64 n3)).other (a := ⟨w1.heap.size, 4, none⟩) (by show w.heap.size ≠ w1.heap.size; omega) (.int .i64 n4)).drew
  have kw5 : Kp w (((((w2.setCell ⟨w1.heap.size, 0, none⟩ (.int .i64 n0)).setCell ⟨w1.heap.size, 1, none⟩ (.int .i64 n1)).setCell ⟨w1.heap.size, 2, none⟩ (.int .i64 n2)).setCell ⟨w1.heap.size, 3, none⟩ (.int .i64 n3)).setCell ⟨w1.heap.size, 4, none⟩ (.int .i64 n4)).drew := (by (repeat (first | with_reducible assumption | with_reducible exact Kp.refl _ | with_reducible refine Kp.drew ?_ | with_reducible refine Kp.drewN ?_ _ | with_reducible refine Kp.alloc ?_ _ | ((with_reducible refine Kp.setCell ?_ ?_ _); rotate_left; (focus (first | omega | (simp; done) | (simp; omega)))) | with_reducible refine Kp.trans ?_ (by assumption))))
  clear f0 z0 f1 z1 f2 z2 f3 z3 f4 z4 d0 d1 d2 d3 d4 br bp
  generalize (((((w2.setCell ⟨w1.heap.size, 0, none⟩ (.int .i64 n0)).setCell ⟨w1.heap.size, 1, none⟩ (.int .i64 n1)).setCell ⟨w1.heap.size, 2, none⟩ (.int .i64 n2)).setCell ⟨w1.heap.size, 3, none⟩ (.int .i64 n3)).setCell ⟨w1.heap.size, 4, none⟩ (.int .i64 n4)).drew = w5 at bp5 br5 kw5 ⊢
  have z0 := bp5.cell 0 rfl
  have z1 := bp5.cell 1 rfl
  have z2 := bp5.cell 2 rfl
  have z3 := bp5.cell 3 rfl
  have z4 := bp5.cell 4 rfl
  have f0 := br5.free 0
  have y0 := br5.cell 0 rfl
  have f1 := br5.free 1
  have y1 := br5.cell 1 rfl
  have f2 := br5.free 2
  have y2 := br5.cell 2 rfl
  have f3 := br5.free 3
  have y3 := br5.cell 3 rfl
  have f4 := br5.free 4
  have y4 := br5.cell 4 rfl
  have f5 := br5.free 5
  have y5 := br5.cell 5 rfl
  go_wp2_with fail
  refine (CP.out _).mono ?_
  rintro e w6 ⟨rfl, k6⟩
  have kw6 := kw5.trans k6
  have br6 := br5.kp k6
  have bp6 := bp5.kp k6
  clear z0 z1 z2 z3 z4 f0 f1 f2 f3 f4 f5 y0 y1 y2 y3 y4 y5 k6 bp5 br5 kw5
  have z0 := bp6.cell 0 rfl
  have z1 := bp6.cell 1 rfl
  have z2 := bp6.cell 2 rfl
  have z3 := bp6.cell 3 rfl
  have z4 := bp6.cell 4 rfl
  have f0 := br6.free 0
  have y0 := br6.cell 0 rfl
  have f1 := br6.free 1
  have y1 := br6.cell 1 rfl
  have f2 := br6.free 2
  have y2 := br6.cell 2 rfl
  have f3 := br6.free 3
  have y3 := br6.cell 3 rfl
  have f4 := br6.free 4
  have y4 := br6.cell 4 rfl
  have f5 := br6.free 5
  have y5 := br6.cell 5 rfl
  by_cases hts : T = s
  · have t0 : (T == s) = true := beq_iff_eq.2 hts
    have HTS := Lib.hid hts
    clear hts
    go_wp2_with fail
    have zz := ((((((br6.set 0 (.int .i64 n0)).set 1 (.int .i64 n1)).set 2 (.int .i64 n2)).set 3 (.int .i64 n3)).set 4 (.int .i64 n4)).set 5 (.bool true))
    have x0 := zz.cell 0 rfl
    have x1 := zz.cell 1 rfl
    have x2 := zz.cell 2 rfl
    have x3 := zz.cell 3 rfl
    have x4 := zz.cell 4 rfl
    have x5 := zz.cell 5 rfl
    clear y0 y1 y2 y3 y4 y5
    refine bodyPost_ret (v := .agg #[.int .i64 n0, .int .i64 n1, .int .i64 n2, .int .i64 n3, .int .i64 n4, .bool true]) (by simp [results, Tryd.results11, go_sem, x0, x1, x2, x3, x4, x5]) rfl ?_
    exact ⟨by first | rfl | (rw [if_pos HTS.out]; rfl), (by (repeat (first | with_reducible assumption | with_reducible exact Kp.refl _ | with_reducible refine Kp.drew ?_ | with_reducible refine Kp.drewN ?_ _ | with_reducible refine Kp.alloc ?_ _ | ((with_reducible refine Kp.setCell ?_ ?_ _); rotate_left; (focus (first | omega | (simp; done) | (simp; omega)))) | with_reducible refine Kp.trans ?_ (by assumption))))⟩
  · have t0 : (T == s) = false := beq_eq_false_iff_ne.2 hts
    have HTS := Lib.hid hts
    clear hts
    go_wp2_with fail
    have zz := ((((((br6.set 0 (.int .i64 0)).set 1 (.int .i64 0)).set 2 (.int .i64 0)).set 3 (.int .i64 0)).set 4 (.int .i64 0)).set 5 (.bool false))
    have x0 := zz.cell 0 rfl
    have x1 := zz.cell 1 rfl
    have x2 := zz.cell 2 rfl
    have x3 := zz.cell 3 rfl
    have x4 := zz.cell 4 rfl
    have x5 := zz.cell 5 rfl
    clear y0 y1 y2 y3 y4 y5
    refine bodyPost_ret (v := .agg #[.int .i64 0, .int .i64 0, .int .i64 0, .int .i64 0, .int .i64 0, .bool false]) (by simp [results, Tryd.results11, go_sem, x0, x1, x2, x3, x4, x5]) rfl ?_
    exact ⟨by first | rfl | (rw [if_neg HTS.out]; rfl), (by (repeat (first | with_reducible assumption | with_reducible exact Kp.refl _ | with_reducible refine Kp.drew ?_ | with_reducible refine Kp.drewN ?_ _ | with_reducible refine Kp.alloc ?_ _ | ((with_reducible refine Kp.setCell ?_ ?_ _); rotate_left; (focus (first | omega | (simp; done) | (simp; omega)))) | with_reducible refine Kp.trans ?_ (by assumption))))⟩
theorem refPut51_any (s : List UInt8) (hs : s.length ≤ 10000) (w : World) : Calls Tryd.prog 11 #[sv s] w fun e w' => e = .returned (refGot s) ∧ Kp w w' := by
  have hn : (numsL s)[0]? = some (numN s 0) ∧ (numsL s)[1]? = some (numN s 1) ∧ (numsL s)[2]? = some (numN s 2) ∧ (numsL s)[3]? = some (numN s 3) ∧ (numsL s)[4]? = some (numN s 4) :=
    ⟨numsL_at s (by decide), numsL_at s (by decide), numsL_at s (by decide), numsL_at s (by decide), numsL_at s (by decide)⟩
  have hok := refP_ok s
  obtain ⟨w0, ws, hw⟩ := List.exists_cons_of_ne_nil (splitW_ne s)
  have hh : headW s = w0 := by unfold headW; rw [hw]; rfl
  unfold refGot refP refPw at *
  rw [hh] at hok ⊢
  by_cases h0 : w0 = wBox
  · subst h0
    exact refPut51_Box s ws hw _ _ _ _ _ hn hok hs w
  rw [if_neg h0] at hok ⊢
  by_cases h1 : w0 = wFloat
  · subst h1
    exact refPut51_Float s ws hw _ _ _ _ _ hn hok hs w
  rw [if_neg h1] at hok ⊢
  by_cases h2 : w0 = wRule
  · subst h2
    exact refPut51_Rule s ws hw _ _ _ _ _ hn hok hs w
  rw [if_neg h2] at hok ⊢
  by_cases h3 : w0 = wLine
  · subst h3
    exact refPut51_Line s ws hw _ _ _ _ _ hn hok hs w
  rw [if_neg h3] at hok ⊢
  exact refPut51_Other s w0 ws hw h0 h1 h2 h3 _ _ _ _ _ hn hok hs w
end Go.Proofs.YteadhacoglcbfaaDoor
