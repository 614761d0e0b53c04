/- Part 13 of the proof: The document's pages with a line more: a page. -/
import Derived.Test.YteadhacoglcbfaaDoorZ12
namespace Go.Proofs.YteadhacoglcbfaaDoor

open Go.ChangeShapes Go.WideShapes Go.ChangeAt Go.RowKit Go.Shelf

theorem rowAppendXL {α : Type} {ops : Array Oper} {rest : List Oper} {o : Oper} {a : Act} {w : World} {Q : Exit → Act → World → Prop} (hgd : o.guard = none) (s x : Operand) (t : TypeId)
    (ho : o.op = .call { callee := .builtin .append, args := #[s, x], argTypes := #[t, t] }) {base : Nat} {e : TypeId} {z : Value} {n bytes : Nat} (ht : Tryd.prog.underlying t = some (.slice e))
    (hinfo : (Tryd.prog.info? e).map (fun i => (i.zero, i.size, i.bytes)) = some (some z, n, bytes)) (hzs : z.cells.size = n) (hsz : 0 < n)
    {v : Value} {l : List α} {enc : α → List Value} (hrow : Row w base e n enc v l) (hs : a.eval s = v) {y : α} (hy : (enc y).length = n) (h1 : ∀ u ∈ enc y, u.oneCell' = true) {b : Nat} {t' : TypeId} (hb : Blk w b (enc y) t')
    (hx : a.eval x = .slice (some ⟨b, 0, none⟩) 1 1) (hlen : l.length + 1 ≤ maxLen) (hbytes : (l.length + 1) * bytes ≤ 140737488355328) (hbase : base ≤ w.heap.size)
    (h : ∀ v' w', Row w' base e n enc v' (l ++ [y]) → w.grownBy w' v.ownBlock → (v'.ownBlock = v.ownBlock ∨ v'.ownBlock = some w.heap.size) → wpList Tryd.prog ops Q rest (a.put o.dst v') w') : wpList Tryd.prog ops Q (o :: rest) a w :=
  wpList_plain hgd fun _ hK => rowAppendX s x t ho ht hinfo hzs hsz hrow hs hy h1 hb hx hlen hbytes hbase fun v' w' p1 p2 p3 => hK _ _ (h v' w' p1 p2 p3)
abbrev zPage : Page := ⟨⟨none, 0, 0, []⟩, 0, 0, 0⟩
theorem SlOk.init {α : Type} {w : World} {n : Nat} {enc : α → List Value} {a : Option Addr} {m cap : Nat} {l : List α} {x : α} (h : SlOk w n enc a m cap (l ++ [x])) : SlOk w n enc a l.length cap l := by
  obtain ⟨h1, h2, h3, h4⟩ := h
  rw [List.length_append, List.length_singleton] at h1
  refine ⟨rfl, by omega, h3, .inr ?_⟩
  rcases h4 with e | ⟨b, off, rfl, hb, hr⟩
  · exact absurd e (by simp)
  · exact ⟨b, off, rfl, hb, fun i y hy j u hu => hr i y (by rw [List.getElem?_append_left (List.getElem?_eq_some_iff.1 hy).1]; exact hy) j u hu⟩
theorem grown_set {W w : World} {r : Option Nat} (h : W.grownBy w r) {B : Nat} (hB : W.heap.size ≤ B) (o : Nat) (u : Value) : W.grownBy (w.setCell ⟨B, o, none⟩ u) r :=
  ⟨h.os, h.tape, h.output, by have := h.size; simpa using this, fun i hi hn => (Below.heap_setCell _ _ _ _ (fun e => by
    have e' : i = B := e
    omega)).trans (h.block i hi hn)⟩
theorem eq_tail (T a b : List UInt8) : ((T ++ (a ++ [10])) == (T ++ (b ++ [10]))) = (a == b) := by
  by_cases h : a = b
  · rw [h]; simp
  · rw [beq_eq_false_iff_ne.2 h, beq_eq_false_iff_ne]
    intro e
    have e2 := List.append_cancel_left e
    exact h (List.append_cancel_right e2)
/-- Pages without lanes. -/
def Bare (l : List Page) : Prop := ∀ p, p ∈ l → p.s = ⟨none, 0, 0, []⟩ ∧ I64 p.t ∧ I64 p.f ∧ I64 p.l
theorem Bare.good {l : List Page} (h : Bare l) (w : World) : ∀ p, p ∈ l → p.good w := fun p hp => by
  obtain ⟨h1, h2, h3, h4⟩ := h p hp
  refine ⟨h2, h3, h4, ?_, ?_⟩
  · rw [h1]; exact ⟨rfl, Nat.le_refl _, Nat.zero_le _, .inl rfl⟩
  · rw [h1]; intro y hy; cases hy
theorem Bare.small {l : List Page} (h : Bare l) (hl : l.length ≤ 3000) : Small l :=
  ⟨hl, fun p hp => by rw [(h p hp).1]; exact Nat.zero_le _, fun p hp x hx => by rw [(h p hp).1] at hx; cases hx⟩
theorem pagesN_init (l : List Page) (p : Page) : pagesN (l ++ [p]) l.length = pagesN l l.length := by
  unfold pagesN
  have : ∀ (k : Nat), k ≤ l.length → (List.range k).flatMap (fun i => ((l ++ [p])[i]?).elim [] (pageL i)) = (List.range k).flatMap (fun i => (l[i]?).elim [] (pageL i)) := by
    intro k hk
    induction k with
    | zero => rfl
    | succ k ih => rw [List.range_succ, List.flatMap_append, List.flatMap_append, ih (by omega), List.flatMap_singleton, List.flatMap_singleton, List.getElem?_append_left (by omega)]
  exact this _ (Nat.le_refl _)
theorem pages_two (l : List Page) (n1 n2 n3 : Int) (hB : Bare l) (hI : I64 n1 ∧ I64 n2 ∧ I64 n3) (hn : l.length ≤ 2000) (w5 : World) (base : Nat) (v5 : Value) (hr5 : Row w5 base 49 4 Page.cells v5 (l ++ [⟨⟨none, 0, 0, []⟩, n1, n2, n3⟩])) :
    ∃ g c T0, v5 = .slice (some ⟨g, 0, none⟩) (l.length + 1) c ∧ l.length + 1 ≤ c ∧ c ≤ maxLen ∧ T0.length ≤ 5427900300000 ∧
      (∀ w', Kp w5 w' → Calls Tryd.prog 15 #[.slice (some ⟨g, 0, none⟩) (l.length + 1) c] w' fun e w'' => e = .returned (sv (T0 ++ (lineL wPage [(l.length : Int), n1, n2, n3] ++ [10]))) ∧ Kp w' w'') ∧
      (∀ w', Kp w5 w' → Calls Tryd.prog 15 #[.slice (some ⟨g, 0, none⟩) l.length c] w' fun e w'' => e = .returned (sv T0) ∧ Kp w' w'') := by
  have hB' : Bare (l ++ [⟨⟨none, 0, 0, []⟩, n1, n2, n3⟩]) := fun p hp => by
    rcases List.mem_append.1 hp with hp | hp
    · exact hB p hp
    · rw [List.mem_singleton] at hp; subst hp; exact ⟨rfl, hI⟩
  have hlen : (l ++ [(⟨⟨none, 0, 0, []⟩, n1, n2, n3⟩ : Page)]).length = l.length + 1 := by rw [List.length_append]; rfl
  obtain ⟨g, c, hv⟩ := row_snoc_shape hr5
  obtain ⟨a5, c5, hv5, sl5⟩ := hr5.sl (fun _ => rfl)
  rw [hv, hlen] at hv5
  simp only [Value.slice.injEq] at hv5
  obtain ⟨rfl, -, rfl⟩ := hv5
  have hS := hB'.small (by omega)
  have hS0 := hB.small (by omega)
  refine ⟨g, c, pagesN l l.length, hv, by have := sl5.2.1; omega, sl5.2.2.1, pagesN_short hS0 (fun p hp => (hB.good w5 p hp).num) _ (Nat.le_refl _), fun w' k => ?_, fun w' k => ?_⟩
  · have h := refPages_any (some ⟨g, 0, none⟩) c _ w' (sl5.kp k) (hB'.good w') hS
    rw [hlen] at h
    rw [pagesN_succ (p := ⟨⟨none, 0, 0, []⟩, n1, n2, n3⟩) (by rw [List.getElem?_append_right (Nat.le_refl _), Nat.sub_self]; rfl), pagesN_init] at h
    have e : pageL l.length ⟨⟨none, 0, 0, []⟩, n1, n2, n3⟩ = lineL wPage [(l.length : Int), n1, n2, n3] ++ [10] := by unfold pageL pageH; simp
    rw [e] at h
    exact h
  · exact refPages_any (some ⟨g, 0, none⟩) c l w' (SlOk.kp (SlOk.init sl5) k) (hB.good w') hS0
set_option maxRecDepth 100000 in
set_option maxHeartbeats 8000000 in
theorem one_page (line : List UInt8) (ws : List (List UInt8)) (hw : splitW line = wPage :: ws) (n1 n2 n3 : Int) (hn : (numsL line)[1]? = some n1 ∧ (numsL line)[2]? = some n2 ∧ (numsL line)[3]? = some n3) (hI : I64 n1 ∧ I64 n2 ∧ I64 n3) (hs : line.length ≤ 10000)
    (base : Nat) (ps : List Page) (v : Value) (hps : ps.length ≤ 2000) (w : World) (hr : Row w base 49 4 Page.cells v ps) (hb : base ≤ w.heap.size) (L1 : List UInt8) (B : Bool) (hL1 : lineL wPage [(ps.length : Int), n1, n2, n3] = L1) (hBe : (L1 == line) = B) :
    Calls Tryd.prog 22 #[v, sv line] w fun e w' => ∃ v', e = .returned (.agg #[v', .int .i64 0, .bool B]) ∧ Row w' base 49 4 Page.cells v' (ps ++ [⟨⟨none, 0, 0, []⟩, n1, n2, n3⟩]) ∧ w.grownBy w' v.ownBlock := by
  have CN := Lib.hid (fun w' => nums_any line hs w')
  have CW := Lib.hid (fun w' => words_any line hs w')
  rw [hw] at CW
  have HN := Lib.hid hn
  have HR := Lib.hid hr
  have HI := Lib.hid hI
  have HL1 := Lib.hid hL1
  have HBe := Lib.hid hBe
  clear hL1 hBe
  have HR0 : Hid (∀ g, v.ownBlock = some g → g < w.heap.size) := Lib.hid fun g hg => (hr.lt g hg).2
  obtain ⟨va, vc, rfl, _⟩ := hr.sl (fun _ => rfl)
  have h6 := numsL_len line
  have HB : Hid (Bare (List.replicate ps.length zPage)) := Lib.hid fun p hp => by
    rw [List.eq_of_mem_replicate hp]
    exact ⟨rfl, by unfold I64; decide, by unfold I64; decide, by unfold I64; decide⟩
  clear hn hw hr hI
  go_enter Tryd.func22, Tryd.ntmps22
  go_wp2_with fail
  refine (CN.out _).mono ?_
  rintro e w1 ⟨v1, rfl, hr1, k1⟩
  obtain ⟨a1, c1, rfl, sl1⟩ := hr1.sl (fun _ => rfl)
  have m1 := sl1.2.1
  have m2 := sl1.2.2.1
  unfold maxLen at m2
  rcases sl1.2.2.2 with e | ⟨g, o, rfl, hg, r1⟩
  · rw [e] at h6; simp at h6
  have d1 := r1 1 _ HN.out.1 0 _ rfl
  have d2 := r1 2 _ HN.out.2.1 0 _ rfl
  have d3 := r1 3 _ HN.out.2.2 0 _ rfl
  simp only [Nat.add_zero, Nat.mul_one] at d1 d2 d3
  have br1 : Blk w1 w.heap.size [.slice none 0 0, .int .i64 0, .bool false] 27 := Blk.kp (by (repeat (first | with_reducible assumption | ((with_reducible refine Blk.newL ?_ ?_); (focus (first | (simp; done) | omega)); rfl) | with_reducible refine Blk.drew ?_ | with_reducible refine Blk.drewN ?_ _ | with_reducible refine Blk.alloc ?_ _ | ((with_reducible refine Blk.other ?_ ?_ _); rotate_left; (focus (first | with_reducible assumption | omega | (simp; done) | (simp; omega))))))) k1
  have kw1 : Kp w w1 := ((by (repeat (first | with_reducible assumption | with_reducible exact Kp.refl _ | with_reducible refine Kp.drew ?_ | with_reducible refine Kp.drewN ?_ _ | with_reducible refine Kp.alloc ?_ _ | ((with_reducible refine Kp.setCell ?_ ?_ _); rotate_left; (focus (first | omega | (simp; done) | (simp; omega)))) | with_reducible refine Kp.trans ?_ (by assumption)))) : Kp w _).trans k1
  obtain ⟨L, hL⟩ : ∃ L, (numsL line).length = L := ⟨_, rfl⟩
  rw [hL] at h6 m1 ⊢
  have l0 : 0 < L := by omega
  have l1 : (1 : Int) < (L : Int) := by omega
  have l2 : (2 : Int) < (L : Int) := by omega
  have l3 : (3 : Int) < (L : Int) := by omega
  clear hr1 sl1 r1 k1 hL HN CN
  go_wp2_with fail
  (refine wp_region_held_drew (S := (fun w' => (∀ b o, b < w1.heap.size → w'.cell? ⟨b, o, none⟩ = w1.cell? ⟨b, o, none⟩) ∧ Kp w1 w')) (by kernel_rfl) ?_ (fun hHd => ?_); (focus ((try dsimp only); (first | with_reducible assumption | with_reducible exact held_start _ | with_reducible exact held_next (by assumption) (by assumption) | with_reducible exact held_alloc (by assumption) _ | with_reducible exact held_drew (by assumption) | ((with_reducible refine held_kp ?_); (repeat (first | with_reducible assumption | with_reducible exact Kp.refl _ | with_reducible refine Kp.drew ?_ | with_reducible refine Kp.drewN ?_ _ | with_reducible refine Kp.alloc ?_ _ | ((with_reducible refine Kp.setCell ?_ ?_ _); rotate_left; (focus (first | omega | (simp; done) | (simp; omega)))) | with_reducible refine Kp.trans ?_ (by assumption))))))))
  (refine takeH (i := 0) (oi := ?o1) (v := ?v1) ?h1 (by kernel_rfl) ?q1 (Or.inl ⟨?w1, ?y1⟩) (by assumption) ?r1; (case h1 => ((simp only [g1, g3]); rfl)); (case q1 => exact fun _ _ _ h => h); (case w1 => rfl); (case y1 => (intro w' hSw; (try dsimp only at hSw); go_simp; (try with_reducible rfl))); (try simp only [Act.put, s1, s2, s3]))
  (refine takeH (i := 1) (oi := ?o2) (v := ?v2) ?h2 (by kernel_rfl) ?q2 (Or.inl ⟨?w2, ?y2⟩) (by assumption) ?r2; (case h2 => ((simp only [g1, g2, g3]); rfl)); (case q2 => exact fun _ _ _ h => h); (case w2 => rfl); (case y2 => (intro w' hSw; (try dsimp only at hSw); go_simp; (try with_reducible rfl))); (try simp only [Act.put, s1, s2, s3]))
  (refine takeH (i := 2) (oi := ?o3) (v := ?v3) ?h3 (by kernel_rfl) ?q3 (Or.inl ⟨?w3, ?y3⟩) (by assumption) ?r3; (case h3 => ((simp only [g1, g2, g3]); rfl)); (case q3 => exact fun _ _ _ h => h); (case w3 => rfl); (case y3 => (intro w' hSw; (try dsimp only at hSw); go_simp; (try with_reducible rfl))); (try simp only [Act.put, s1, s2, s3]))
  (refine takeH (i := 3) (oi := ?o4) (v := ?v4) ?h4 (by kernel_rfl) ?q4 (Or.inl ⟨?w4, ?y4⟩) (by assumption) ?r4; (case h4 => ((simp only [g1, g2, g3]); rfl)); (case q4 => exact fun _ _ _ h => h); (case w4 => rfl); (case y4 => (intro w' hSw; (try dsimp only at hSw); go_simp; (try with_reducible rfl))); (try simp only [Act.put, s1, s2, s3]))
  (refine takeH (i := 4) (oi := ?o5) (v := ?v5) ?h5 (by kernel_rfl) ?q5 (Or.inl ⟨?w5, ?y5⟩) (by assumption) ?r5; (case h5 => ((simp only [g1, g2, g3]); rfl)); (case q5 => exact fun _ _ _ h => h); (case w5 => rfl); (case y5 => (intro w' hSw; (try dsimp only at hSw); go_simp; (try with_reducible rfl))); (try simp only [Act.put, s1, s2, s3]))
  (refine takeH (i := 5) (oi := ?o6) (v := ?v6) ?h6 (by kernel_rfl) ?q6 (Or.inl ⟨?w6, ?y6⟩) (by assumption) ?r6; (case h6 => ((simp only [g1, g2, g3]); rfl)); (case q6 => exact fun _ _ _ h => h); (case w6 => rfl); (case y6 => (intro w' hSw; (try dsimp only at hSw); go_simp; (try with_reducible rfl))); (try simp only [Act.put, s1, s2, s3]))
  (refine takeH (i := 6) (oi := ?o7) (v := ?v7) ?h7 (by kernel_rfl) ?q7 (Or.inl ⟨?w7, ?y7⟩) (by assumption) ?r7; (case h7 => ((simp only [g1, g2, g3]); rfl)); (case q7 => exact fun _ _ _ h => h); (case w7 => rfl); (case y7 => (intro w' hSw; (try dsimp only at hSw); go_simp; (try with_reducible rfl))); (try simp only [Act.put, s1, s2, s3]))
  (refine takeH (i := 7) (oi := ?o8) (v := ?v8) ?h8 (by kernel_rfl) ?q8 (Or.inl ⟨?w8, ?y8⟩) (by assumption) ?r8; (case h8 => ((simp only [g1, g2, g3]); rfl)); (case q8 => exact fun _ _ _ h => h); (case w8 => rfl); (case y8 => (intro w' hSw; (try dsimp only at hSw); go_simp; (try with_reducible rfl))); (try simp only [Act.put, s1, s2, s3]))
  (refine takeH (i := 8) (oi := ?o9) (v := ?v9) ?h9 (by kernel_rfl) ?q9 (Or.inl ⟨?w9, ?y9⟩) (by assumption) ?r9; (case h9 => ((simp only [g1, g2, g3]); rfl)); (case q9 => exact fun _ _ _ h => h); (case w9 => rfl); (case y9 => (intro w' hSw; (try dsimp only at hSw); go_simp; (try with_reducible rfl))); (try simp only [Act.put, s1, s2, s3]))
  (refine takeH (i := 9) (oi := ?o10) (v := ?v10) ?h10 (by kernel_rfl) ?q10 (Or.inl ⟨?w10, ?y10⟩) (by assumption) ?r10; (case h10 => ((simp only [g1, g2, g3]); rfl)); (case q10 => exact fun _ _ _ h => h); (case w10 => rfl); (case y10 => (intro w' hSw; (try dsimp only at hSw); go_simp; (try with_reducible rfl))); (try simp only [Act.put, s1, s2, s3]))
  (refine wpAnyH_ready (rs := [10]) (by kernel_rfl) (by simp) ?_; refine AllReadyH.cons (o := ?o11) ?h11 (fun K hK => ?s11) AllReadyH.nil; (case h11 => (first | ((simp only [g1, g2, g3]); rfl) | rfl)); go_simp; (try dsimp only); refine hK.out _ _ ?_ (fun hHd => ?_); (focus ((try dsimp only); (first | with_reducible assumption | with_reducible exact held_start _ | with_reducible exact held_next (by assumption) (by assumption) | with_reducible exact held_alloc (by assumption) _ | with_reducible exact held_drew (by assumption) | ((with_reducible refine held_kp ?_); (repeat (first | with_reducible assumption | with_reducible exact Kp.refl _ | with_reducible refine Kp.drew ?_ | with_reducible refine Kp.drewN ?_ _ | with_reducible refine Kp.alloc ?_ _ | ((with_reducible refine Kp.setCell ?_ ?_ _); rotate_left; (focus (first | omega | (simp; done) | (simp; omega)))) | with_reducible refine Kp.trans ?_ (by assumption))))))); clear hK K; (try simp only [Act.put, s1, s2, s3]))
  (refine wpAnyH_ready (rs := [11]) (by kernel_rfl) (by simp) ?_; refine AllReadyH.cons (o := ?o12) ?h12 (fun K hK => ?s12) AllReadyH.nil; (case h12 => (first | ((simp only [g1, g2, g3]); rfl) | rfl)); go_simp; (try dsimp only); refine hK.out _ _ ?_ (fun hHd => ?_); (focus ((try dsimp only); (first | with_reducible assumption | with_reducible exact held_start _ | with_reducible exact held_next (by assumption) (by assumption) | with_reducible exact held_alloc (by assumption) _ | with_reducible exact held_drew (by assumption) | ((with_reducible refine held_kp ?_); (repeat (first | with_reducible assumption | with_reducible exact Kp.refl _ | with_reducible refine Kp.drew ?_ | with_reducible refine Kp.drewN ?_ _ | with_reducible refine Kp.alloc ?_ _ | ((with_reducible refine Kp.setCell ?_ ?_ _); rotate_left; (focus (first | omega | (simp; done) | (simp; omega)))) | with_reducible refine Kp.trans ?_ (by assumption))))))); clear hK K; (try simp only [Act.put, s1, s2, s3]))
  refine wpAnyH_done (by kernel_rfl) ?_ _
  clear hHd
  go_wp2_with fail
  refine (CW.out _).mono ?_
  rintro e w2 ⟨v2, rfl, hr2, k2⟩
  obtain ⟨a2, c2, rfl, sl2⟩ := hr2.sl (fun _ => rfl)
  have m3 := sl2.2.1
  have m4 := sl2.2.2.1
  unfold maxLen at m4
  rcases sl2.2.2.2 with e | ⟨g2', o2, rfl, hg2, r2⟩
  · cases e
  have q0 := r2 0 _ rfl 0 _ rfl
  simp only [Nat.add_zero, Nat.mul_one] at q0
  have kw2 : Kp w1 w2 := ((by (repeat (first | with_reducible assumption | with_reducible exact Kp.refl _ | with_reducible refine Kp.drew ?_ | with_reducible refine Kp.drewN ?_ _ | with_reducible refine Kp.alloc ?_ _ | ((with_reducible refine Kp.setCell ?_ ?_ _); rotate_left; (focus (first | omega | (simp; done) | (simp; omega)))) | with_reducible refine Kp.trans ?_ (by assumption)))) : Kp w1 _).trans k2
  have br := br1.kp kw2
  have bp : Blk w2 w1.heap.size [.slice none 0 0, .int .i64 n1, .int .i64 n2, .int .i64 n3] 49 := Blk.kp (by (repeat (first | with_reducible assumption | ((with_reducible refine Blk.newL ?_ ?_); (focus (first | (simp; done) | omega)); rfl) | with_reducible refine Blk.drew ?_ | with_reducible refine Blk.drewN ?_ _ | with_reducible refine Blk.alloc ?_ _ | ((with_reducible refine Blk.other ?_ ?_ _); rotate_left; (focus (first | with_reducible assumption | omega | (simp; done) | (simp; omega))))))) k2
  have brl := br1.lt
  clear hr2 sl2 r2 k2 br1 CW
  have z0 := bp.cell 0 rfl
  have z1 := bp.cell 1 rfl
  have z2 := bp.cell 2 rfl
  have z3 := bp.cell 3 rfl
  go_wp2_with fail
  have bpl := bp.lt
  (refine wp_region_held_drew (S := (fun w' => (∀ b o, b < w2.heap.size → w'.cell? ⟨b, o, none⟩ = w2.cell? ⟨b, o, none⟩) ∧ Kp w2 w')) (by kernel_rfl) ?_ (fun hHd => ?_); (focus ((try dsimp only); (first | with_reducible assumption | with_reducible exact held_start _ | with_reducible exact held_next (by assumption) (by assumption) | with_reducible exact held_alloc (by assumption) _ | with_reducible exact held_drew (by assumption) | ((with_reducible refine held_kp ?_); (repeat (first | with_reducible assumption | with_reducible exact Kp.refl _ | with_reducible refine Kp.drew ?_ | with_reducible refine Kp.drewN ?_ _ | with_reducible refine Kp.alloc ?_ _ | ((with_reducible refine Kp.setCell ?_ ?_ _); rotate_left; (focus (first | omega | (simp; done) | (simp; omega)))) | with_reducible refine Kp.trans ?_ (by assumption))))))))
  (refine takeH (i := 1) (oi := ?o13) (v := ?v13) ?h13 (by kernel_rfl) ?q13 (Or.inl ⟨?w13, ?y13⟩) (by assumption) ?r13; (case h13 => ((simp only [g1, g2, g3]); rfl)); (case q13 => exact fun _ _ _ h => h); (case w13 => rfl); (case y13 => (intro w' hSw; (try dsimp only at hSw); go_simp; (try with_reducible rfl))); (try simp only [Act.put, s1, s2, s3]))
  (refine takeH (i := 3) (oi := ?o14) (v := ?v14) ?h14 (by kernel_rfl) ?q14 (Or.inl ⟨?w14, ?y14⟩) (by assumption) ?r14; (case h14 => ((simp only [g1, g2, g3]); rfl)); (case q14 => exact fun _ _ _ h => h); (case w14 => rfl); (case y14 => (intro w' hSw; (try dsimp only at hSw); go_simp; (try with_reducible rfl))); (try simp only [Act.put, s1, s2, s3]))
  (refine wpAnyH_ready (rs := [0, 4]) (by kernel_rfl) (by simp) ?_; refine (AllReadyH.cons (o := ?o15) ?h15 (fun K hK => ?s15) (AllReadyH.cons (o := ?o16) ?h16 (fun K hK => ?s16) AllReadyH.nil)); (case h15 => (first | ((simp only [g1, g3]); rfl) | rfl)); (case h16 => (first | ((simp only [g1, g2, g3]); rfl) | rfl)))
  (go_simp; (try dsimp only); refine hK.out _ _ ?_ (fun hHd => ?_); (focus ((try dsimp only); (first | with_reducible assumption | with_reducible exact held_start _ | with_reducible exact held_next (by assumption) (by assumption) | with_reducible exact held_alloc (by assumption) _ | with_reducible exact held_drew (by assumption) | ((with_reducible refine held_kp ?_); (repeat (first | with_reducible assumption | with_reducible exact Kp.refl _ | with_reducible refine Kp.drew ?_ | with_reducible refine Kp.drewN ?_ _ | with_reducible refine Kp.alloc ?_ _ | ((with_reducible refine Kp.setCell ?_ ?_ _); rotate_left; (focus (first | omega | (simp; done) | (simp; omega)))) | with_reducible refine Kp.trans ?_ (by assumption))))))); clear hK K; (try simp only [Act.put, s1, s2, s3]))
  (refine wpAnyH_ready (rs := [2, 4]) (by kernel_rfl) (by simp) ?_; refine (AllReadyH.cons (o := ?o17) ?h17 (fun K hK => ?s17) (AllReadyH.cons (o := ?o18) ?h18 (fun K hK => ?s18) AllReadyH.nil)); (case h17 => (first | ((simp only [g1, g2, g3]); rfl) | rfl)); (case h18 => (first | ((simp only [g1, g2, g3]); rfl) | rfl)))
  ((refine rowZeros (.tmp 35) (.tmp 36) 23 3 ?ho19 Tryd.underlying23 Tryd.underlying3 infoPg rfl (by decide) (B := ?B19) (k := .i64) (kn := .i64) (base := w2.heap.size) (enc := Page.cells) (y := zPage) rfl ?hB19 ?hbb19 ?hs19 (m := ps.length) ?hx19 (by omega) (by decide) ?hz19 ?_; (case ho19 => rfl); (case hs19 => rfl); (case hx19 => rfl); (case hB19 => exact (show Blk _ _ [] 49 from (by (repeat (first | with_reducible assumption | ((with_reducible refine Blk.newL ?_ ?_); (focus (first | (simp; done) | omega)); rfl) | with_reducible refine Blk.drew ?_ | with_reducible refine Blk.drewN ?_ _ | with_reducible refine Blk.alloc ?_ _ | ((with_reducible refine Blk.other ?_ ?_ _); rotate_left; (focus (first | with_reducible assumption | omega | (simp; done) | (simp; omega)))))))).heap); (case hbb19 => first | omega | (simp; done) | (simp; omega)); (case hz19 => exact (show Kp w2 _ from (by (repeat (first | with_reducible assumption | with_reducible exact Kp.refl _ | with_reducible refine Kp.drew ?_ | with_reducible refine Kp.drewN ?_ _ | with_reducible refine Kp.alloc ?_ _ | ((with_reducible refine Kp.setCell ?_ ?_ _); rotate_left; (focus (first | omega | (simp; done) | (simp; omega)))) | with_reducible refine Kp.trans ?_ (by assumption))))).size); intro v3 w3 hz kz); refine hK.out _ _ ?_ (fun hHd => ?_); (focus ((try dsimp only); (refine held_kp ?_; (repeat (first | with_reducible assumption | with_reducible exact Kp.refl _ | with_reducible refine Kp.drew ?_ | with_reducible refine Kp.drewN ?_ _ | with_reducible refine Kp.alloc ?_ _ | ((with_reducible refine Kp.setCell ?_ ?_ _); rotate_left; (focus (first | omega | (simp; done) | (simp; omega)))) | ((with_reducible refine Kp.setCells ?_ _ _ _ ?_); (focus (first | omega | (simp; done) | (simp; omega)))) | with_reducible refine Kp.trans ?_ (by assumption)))))); clear hK K; (try simp only [Act.put]))
  (refine wpAnyH_ready (rs := [4]) (by kernel_rfl) (by simp) ?_; refine AllReadyH.cons (o := ?o20) ?h20 (fun K hK => ?s20) AllReadyH.nil; (case h20 => (first | ((simp only [g1, g2, g3]); rfl) | rfl)); go_simp; (try dsimp only); refine hK.out _ _ ?_ (fun hHd => ?_); (focus ((try dsimp only); (first | with_reducible assumption | with_reducible exact held_start _ | with_reducible exact held_next (by assumption) (by assumption) | with_reducible exact held_alloc (by assumption) _ | with_reducible exact held_drew (by assumption) | ((with_reducible refine held_kp ?_); (repeat (first | with_reducible assumption | with_reducible exact Kp.refl _ | with_reducible refine Kp.drew ?_ | with_reducible refine Kp.drewN ?_ _ | with_reducible refine Kp.alloc ?_ _ | ((with_reducible refine Kp.setCell ?_ ?_ _); rotate_left; (focus (first | omega | (simp; done) | (simp; omega)))) | with_reducible refine Kp.trans ?_ (by assumption))))))); clear hK K; (try simp only [Act.put, s1, s2, s3]))
  (refine wpAnyH_ready (rs := [5]) (by kernel_rfl) (by simp) ?_; refine AllReadyH.cons (o := ?o21) ?h21 (fun K hK => ?s21) AllReadyH.nil; (case h21 => (first | ((simp only [g1, g2, g3]); rfl) | rfl)); (refine rowAppendX (.tmp 37) (.tmp 39) 23 ?ho22 Tryd.underlying23 infoPg rfl (by decide) (hz.kp (by (repeat (first | with_reducible assumption | with_reducible exact Kp.refl _ | with_reducible refine Kp.drew ?_ | with_reducible refine Kp.drewN ?_ _ | with_reducible refine Kp.alloc ?_ _ | ((with_reducible refine Kp.setCell ?_ ?_ _); rotate_left; (focus (first | omega | (simp; done) | (simp; omega)))) | with_reducible refine Kp.trans ?_ (by assumption))))) ?hs22 (b := ?b22) (t' := 49) (y := (⟨⟨none, 0, 0, []⟩, n1, n2, n3⟩ : Page)) rfl (pageOne _) ?hk22 ?hx22 ?hl22 ?hb22 ?hz22 ?_; (case ho22 => rfl); (case hs22 => rfl); (case hx22 => rfl); (case hk22 => first | (refine Blk.kp ?_ kz; exact (by (repeat (first | with_reducible assumption | ((with_reducible refine Blk.newL ?_ ?_); (focus (first | (simp; done) | omega)); rfl) | with_reducible refine Blk.drew ?_ | with_reducible refine Blk.drewN ?_ _ | with_reducible refine Blk.alloc ?_ _ | ((with_reducible refine Blk.other ?_ ?_ _); rotate_left; (focus (first | with_reducible assumption | omega | (simp; done) | (simp; omega)))))))) | exact (by (repeat (first | with_reducible assumption | ((with_reducible refine Blk.newL ?_ ?_); (focus (first | (simp; done) | omega)); rfl) | with_reducible refine Blk.drew ?_ | with_reducible refine Blk.drewN ?_ _ | with_reducible refine Blk.alloc ?_ _ | ((with_reducible refine Blk.other ?_ ?_ _); rotate_left; (focus (first | with_reducible assumption | omega | (simp; done) | (simp; omega)))))))); (case hl22 => rw [List.length_replicate]; unfold maxLen; omega); (case hb22 => rw [List.length_replicate]; omega); (case hz22 => exact (show Kp w2 _ from (by (repeat (first | with_reducible assumption | with_reducible exact Kp.refl _ | with_reducible refine Kp.drew ?_ | with_reducible refine Kp.drewN ?_ _ | with_reducible refine Kp.alloc ?_ _ | ((with_reducible refine Kp.setCell ?_ ?_ _); rotate_left; (focus (first | omega | (simp; done) | (simp; omega)))) | with_reducible refine Kp.trans ?_ (by assumption))))).size); intro v5 w5 hr5 hg5 hl5; have k5 : Kp w2 w5 := Kp.grown1 (show Kp w2 _ from (by (repeat (first | with_reducible assumption | with_reducible exact Kp.refl _ | with_reducible refine Kp.drew ?_ | with_reducible refine Kp.drewN ?_ _ | with_reducible refine Kp.alloc ?_ _ | ((with_reducible refine Kp.setCell ?_ ?_ _); rotate_left; (focus (first | omega | (simp; done) | (simp; omega)))) | with_reducible refine Kp.trans ?_ (by assumption))))) hg5 (fun b h => (hz.lt b h).1)); refine hK.out _ _ ?_ (fun hHd => ?_); (focus ((try dsimp only); exact held_kp k5)); clear hK K; (try simp only [Act.put]))
  (refine takeH (i := 6) (oi := ?o23) (v := ?v23) ?h23 (by kernel_rfl) ?q23 (Or.inl ⟨?w23, ?y23⟩) (by assumption) ?r23; (case h23 => ((simp only [g1, g2, g3]); rfl)); (case q23 => exact fun _ _ _ h => h); (case w23 => rfl); (case y23 => (intro w' hSw; (try dsimp only at hSw); go_simp; (try with_reducible rfl))); (try simp only [Act.put, s1, s2, s3]))
  refine wpAnyH_done (by kernel_rfl) ?_ _
  rotate_left
  (go_simp; (try dsimp only); refine hK.out _ _ ?_ (fun hHd => ?_); (focus ((try dsimp only); (first | with_reducible assumption | with_reducible exact held_start _ | with_reducible exact held_next (by assumption) (by assumption) | with_reducible exact held_alloc (by assumption) _ | with_reducible exact held_drew (by assumption) | ((with_reducible refine held_kp ?_); (repeat (first | with_reducible assumption | with_reducible exact Kp.refl _ | with_reducible refine Kp.drew ?_ | with_reducible refine Kp.drewN ?_ _ | with_reducible refine Kp.alloc ?_ _ | ((with_reducible refine Kp.setCell ?_ ?_ _); rotate_left; (focus (first | omega | (simp; done) | (simp; omega)))) | with_reducible refine Kp.trans ?_ (by assumption))))))); clear hK K; (try simp only [Act.put, s1, s2, s3]))
  (refine wpAnyH_ready (rs := [2]) (by kernel_rfl) (by simp) ?_; refine AllReadyH.cons (o := ?o24) ?h24 (fun K hK => ?s24) AllReadyH.nil; (case h24 => (first | ((simp only [g1, g2, g3]); rfl) | rfl)); (refine rowZeros (.tmp 35) (.tmp 36) 23 3 ?ho25 Tryd.underlying23 Tryd.underlying3 infoPg rfl (by decide) (B := ?B25) (k := .i64) (kn := .i64) (base := w2.heap.size) (enc := Page.cells) (y := zPage) rfl ?hB25 ?hbb25 ?hs25 (m := ps.length) ?hx25 (by omega) (by decide) ?hz25 ?_; (case ho25 => rfl); (case hs25 => rfl); (case hx25 => rfl); (case hB25 => exact (show Blk _ _ [] 49 from (by (repeat (first | with_reducible assumption | ((with_reducible refine Blk.newL ?_ ?_); (focus (first | (simp; done) | omega)); rfl) | with_reducible refine Blk.drew ?_ | with_reducible refine Blk.drewN ?_ _ | with_reducible refine Blk.alloc ?_ _ | ((with_reducible refine Blk.other ?_ ?_ _); rotate_left; (focus (first | with_reducible assumption | omega | (simp; done) | (simp; omega)))))))).heap); (case hbb25 => first | omega | (simp; done) | (simp; omega)); (case hz25 => exact (show Kp w2 _ from (by (repeat (first | with_reducible assumption | with_reducible exact Kp.refl _ | with_reducible refine Kp.drew ?_ | with_reducible refine Kp.drewN ?_ _ | with_reducible refine Kp.alloc ?_ _ | ((with_reducible refine Kp.setCell ?_ ?_ _); rotate_left; (focus (first | omega | (simp; done) | (simp; omega)))) | with_reducible refine Kp.trans ?_ (by assumption))))).size); intro v3 w3 hz kz); refine hK.out _ _ ?_ (fun hHd => ?_); (focus ((try dsimp only); (refine held_kp ?_; (repeat (first | with_reducible assumption | with_reducible exact Kp.refl _ | with_reducible refine Kp.drew ?_ | with_reducible refine Kp.drewN ?_ _ | with_reducible refine Kp.alloc ?_ _ | ((with_reducible refine Kp.setCell ?_ ?_ _); rotate_left; (focus (first | omega | (simp; done) | (simp; omega)))) | ((with_reducible refine Kp.setCells ?_ _ _ _ ?_); (focus (first | omega | (simp; done) | (simp; omega)))) | with_reducible refine Kp.trans ?_ (by assumption)))))); clear hK K; (try simp only [Act.put]))
  (refine wpAnyH_ready (rs := [5]) (by kernel_rfl) (by simp) ?_; refine AllReadyH.cons (o := ?o26) ?h26 (fun K hK => ?s26) AllReadyH.nil; (case h26 => (first | ((simp only [g1, g2, g3]); rfl) | rfl)); (refine rowAppendX (.tmp 37) (.tmp 39) 23 ?ho27 Tryd.underlying23 infoPg rfl (by decide) (hz.kp (by (repeat (first | with_reducible assumption | with_reducible exact Kp.refl _ | with_reducible refine Kp.drew ?_ | with_reducible refine Kp.drewN ?_ _ | with_reducible refine Kp.alloc ?_ _ | ((with_reducible refine Kp.setCell ?_ ?_ _); rotate_left; (focus (first | omega | (simp; done) | (simp; omega)))) | with_reducible refine Kp.trans ?_ (by assumption))))) ?hs27 (b := ?b27) (t' := 49) (y := (⟨⟨none, 0, 0, []⟩, n1, n2, n3⟩ : Page)) rfl (pageOne _) ?hk27 ?hx27 ?hl27 ?hb27 ?hz27 ?_; (case ho27 => rfl); (case hs27 => rfl); (case hx27 => rfl); (case hk27 => first | (refine Blk.kp ?_ kz; exact (by (repeat (first | with_reducible assumption | ((with_reducible refine Blk.newL ?_ ?_); (focus (first | (simp; done) | omega)); rfl) | with_reducible refine Blk.drew ?_ | with_reducible refine Blk.drewN ?_ _ | with_reducible refine Blk.alloc ?_ _ | ((with_reducible refine Blk.other ?_ ?_ _); rotate_left; (focus (first | with_reducible assumption | omega | (simp; done) | (simp; omega)))))))) | exact (by (repeat (first | with_reducible assumption | ((with_reducible refine Blk.newL ?_ ?_); (focus (first | (simp; done) | omega)); rfl) | with_reducible refine Blk.drew ?_ | with_reducible refine Blk.drewN ?_ _ | with_reducible refine Blk.alloc ?_ _ | ((with_reducible refine Blk.other ?_ ?_ _); rotate_left; (focus (first | with_reducible assumption | omega | (simp; done) | (simp; omega)))))))); (case hl27 => rw [List.length_replicate]; unfold maxLen; omega); (case hb27 => rw [List.length_replicate]; omega); (case hz27 => exact (show Kp w2 _ from (by (repeat (first | with_reducible assumption | with_reducible exact Kp.refl _ | with_reducible refine Kp.drew ?_ | with_reducible refine Kp.drewN ?_ _ | with_reducible refine Kp.alloc ?_ _ | ((with_reducible refine Kp.setCell ?_ ?_ _); rotate_left; (focus (first | omega | (simp; done) | (simp; omega)))) | with_reducible refine Kp.trans ?_ (by assumption))))).size); intro v5 w5 hr5 hg5 hl5; have k5 : Kp w2 w5 := Kp.grown1 (show Kp w2 _ from (by (repeat (first | with_reducible assumption | with_reducible exact Kp.refl _ | with_reducible refine Kp.drew ?_ | with_reducible refine Kp.drewN ?_ _ | with_reducible refine Kp.alloc ?_ _ | ((with_reducible refine Kp.setCell ?_ ?_ _); rotate_left; (focus (first | omega | (simp; done) | (simp; omega)))) | with_reducible refine Kp.trans ?_ (by assumption))))) hg5 (fun b h => (hz.lt b h).1)); refine hK.out _ _ ?_ (fun hHd => ?_); (focus ((try dsimp only); exact held_kp k5)); clear hK K; (try simp only [Act.put]))
  (refine takeH (i := 6) (oi := ?o28) (v := ?v28) ?h28 (by kernel_rfl) ?q28 (Or.inl ⟨?w28, ?y28⟩) (by assumption) ?r28; (case h28 => ((simp only [g1, g2, g3]); rfl)); (case q28 => exact fun _ _ _ h => h); (case w28 => rfl); (case y28 => (intro w' hSw; (try dsimp only at hSw); go_simp; (try with_reducible rfl))); (try simp only [Act.put, s1, s2, s3]))
  refine wpAnyH_done (by kernel_rfl) ?_ _
  rotate_left
  (go_simp; (try dsimp only); refine hK.out _ _ ?_ (fun hHd => ?_); (focus ((try dsimp only); (first | with_reducible assumption | with_reducible exact held_start _ | with_reducible exact held_next (by assumption) (by assumption) | with_reducible exact held_alloc (by assumption) _ | with_reducible exact held_drew (by assumption) | ((with_reducible refine held_kp ?_); (repeat (first | with_reducible assumption | with_reducible exact Kp.refl _ | with_reducible refine Kp.drew ?_ | with_reducible refine Kp.drewN ?_ _ | with_reducible refine Kp.alloc ?_ _ | ((with_reducible refine Kp.setCell ?_ ?_ _); rotate_left; (focus (first | omega | (simp; done) | (simp; omega)))) | with_reducible refine Kp.trans ?_ (by assumption))))))); clear hK K; (try simp only [Act.put, s1, s2, s3]))
  (refine wpAnyH_ready (rs := [0]) (by kernel_rfl) (by simp) ?_; refine AllReadyH.cons (o := ?o29) ?h29 (fun K hK => ?s29) AllReadyH.nil; (case h29 => (first | ((simp only [g1, g3]); rfl) | rfl)); go_simp; (try dsimp only); refine hK.out _ _ ?_ (fun hHd => ?_); (focus ((try dsimp only); (first | with_reducible assumption | with_reducible exact held_start _ | with_reducible exact held_next (by assumption) (by assumption) | with_reducible exact held_alloc (by assumption) _ | with_reducible exact held_drew (by assumption) | ((with_reducible refine held_kp ?_); (repeat (first | with_reducible assumption | with_reducible exact Kp.refl _ | with_reducible refine Kp.drew ?_ | with_reducible refine Kp.drewN ?_ _ | with_reducible refine Kp.alloc ?_ _ | ((with_reducible refine Kp.setCell ?_ ?_ _); rotate_left; (focus (first | omega | (simp; done) | (simp; omega)))) | with_reducible refine Kp.trans ?_ (by assumption))))))); clear hK K; (try simp only [Act.put, s1, s2, s3]))
  (refine wpAnyH_ready (rs := [2]) (by kernel_rfl) (by simp) ?_; refine AllReadyH.cons (o := ?o30) ?h30 (fun K hK => ?s30) AllReadyH.nil; (case h30 => (first | ((simp only [g1, g2, g3]); rfl) | rfl)); (refine rowZeros (.tmp 35) (.tmp 36) 23 3 ?ho31 Tryd.underlying23 Tryd.underlying3 infoPg rfl (by decide) (B := ?B31) (k := .i64) (kn := .i64) (base := w2.heap.size) (enc := Page.cells) (y := zPage) rfl ?hB31 ?hbb31 ?hs31 (m := ps.length) ?hx31 (by omega) (by decide) ?hz31 ?_; (case ho31 => rfl); (case hs31 => rfl); (case hx31 => rfl); (case hB31 => exact (show Blk _ _ [] 49 from (by (repeat (first | with_reducible assumption | ((with_reducible refine Blk.newL ?_ ?_); (focus (first | (simp; done) | omega)); rfl) | with_reducible refine Blk.drew ?_ | with_reducible refine Blk.drewN ?_ _ | with_reducible refine Blk.alloc ?_ _ | ((with_reducible refine Blk.other ?_ ?_ _); rotate_left; (focus (first | with_reducible assumption | omega | (simp; done) | (simp; omega)))))))).heap); (case hbb31 => first | omega | (simp; done) | (simp; omega)); (case hz31 => exact (show Kp w2 _ from (by (repeat (first | with_reducible assumption | with_reducible exact Kp.refl _ | with_reducible refine Kp.drew ?_ | with_reducible refine Kp.drewN ?_ _ | with_reducible refine Kp.alloc ?_ _ | ((with_reducible refine Kp.setCell ?_ ?_ _); rotate_left; (focus (first | omega | (simp; done) | (simp; omega)))) | with_reducible refine Kp.trans ?_ (by assumption))))).size); intro v3 w3 hz kz); refine hK.out _ _ ?_ (fun hHd => ?_); (focus ((try dsimp only); (refine held_kp ?_; (repeat (first | with_reducible assumption | with_reducible exact Kp.refl _ | with_reducible refine Kp.drew ?_ | with_reducible refine Kp.drewN ?_ _ | with_reducible refine Kp.alloc ?_ _ | ((with_reducible refine Kp.setCell ?_ ?_ _); rotate_left; (focus (first | omega | (simp; done) | (simp; omega)))) | ((with_reducible refine Kp.setCells ?_ _ _ _ ?_); (focus (first | omega | (simp; done) | (simp; omega)))) | with_reducible refine Kp.trans ?_ (by assumption)))))); clear hK K; (try simp only [Act.put]))
  (refine wpAnyH_ready (rs := [5]) (by kernel_rfl) (by simp) ?_; refine AllReadyH.cons (o := ?o32) ?h32 (fun K hK => ?s32) AllReadyH.nil; (case h32 => (first | ((simp only [g1, g2, g3]); rfl) | rfl)); (refine rowAppendX (.tmp 37) (.tmp 39) 23 ?ho33 Tryd.underlying23 infoPg rfl (by decide) (hz.kp (by (repeat (first | with_reducible assumption | with_reducible exact Kp.refl _ | with_reducible refine Kp.drew ?_ | with_reducible refine Kp.drewN ?_ _ | with_reducible refine Kp.alloc ?_ _ | ((with_reducible refine Kp.setCell ?_ ?_ _); rotate_left; (focus (first | omega | (simp; done) | (simp; omega)))) | with_reducible refine Kp.trans ?_ (by assumption))))) ?hs33 (b := ?b33) (t' := 49) (y := (⟨⟨none, 0, 0, []⟩, n1, n2, n3⟩ : Page)) rfl (pageOne _) ?hk33 ?hx33 ?hl33 ?hb33 ?hz33 ?_; (case ho33 => rfl); (case hs33 => rfl); (case hx33 => rfl); (case hk33 => first | (refine Blk.kp ?_ kz; exact (by (repeat (first | with_reducible assumption | ((with_reducible refine Blk.newL ?_ ?_); (focus (first | (simp; done) | omega)); rfl) | with_reducible refine Blk.drew ?_ | with_reducible refine Blk.drewN ?_ _ | with_reducible refine Blk.alloc ?_ _ | ((with_reducible refine Blk.other ?_ ?_ _); rotate_left; (focus (first | with_reducible assumption | omega | (simp; done) | (simp; omega)))))))) | exact (by (repeat (first | with_reducible assumption | ((with_reducible refine Blk.newL ?_ ?_); (focus (first | (simp; done) | omega)); rfl) | with_reducible refine Blk.drew ?_ | with_reducible refine Blk.drewN ?_ _ | with_reducible refine Blk.alloc ?_ _ | ((with_reducible refine Blk.other ?_ ?_ _); rotate_left; (focus (first | with_reducible assumption | omega | (simp; done) | (simp; omega)))))))); (case hl33 => rw [List.length_replicate]; unfold maxLen; omega); (case hb33 => rw [List.length_replicate]; omega); (case hz33 => exact (show Kp w2 _ from (by (repeat (first | with_reducible assumption | with_reducible exact Kp.refl _ | with_reducible refine Kp.drew ?_ | with_reducible refine Kp.drewN ?_ _ | with_reducible refine Kp.alloc ?_ _ | ((with_reducible refine Kp.setCell ?_ ?_ _); rotate_left; (focus (first | omega | (simp; done) | (simp; omega)))) | with_reducible refine Kp.trans ?_ (by assumption))))).size); intro v5 w5 hr5 hg5 hl5; have k5 : Kp w2 w5 := Kp.grown1 (show Kp w2 _ from (by (repeat (first | with_reducible assumption | with_reducible exact Kp.refl _ | with_reducible refine Kp.drew ?_ | with_reducible refine Kp.drewN ?_ _ | with_reducible refine Kp.alloc ?_ _ | ((with_reducible refine Kp.setCell ?_ ?_ _); rotate_left; (focus (first | omega | (simp; done) | (simp; omega)))) | with_reducible refine Kp.trans ?_ (by assumption))))) hg5 (fun b h => (hz.lt b h).1)); refine hK.out _ _ ?_ (fun hHd => ?_); (focus ((try dsimp only); exact held_kp k5)); clear hK K; (try simp only [Act.put]))
  (refine takeH (i := 6) (oi := ?o34) (v := ?v34) ?h34 (by kernel_rfl) ?q34 (Or.inl ⟨?w34, ?y34⟩) (by assumption) ?r34; (case h34 => ((simp only [g1, g2, g3]); rfl)); (case q34 => exact fun _ _ _ h => h); (case w34 => rfl); (case y34 => (intro w' hSw; (try dsimp only at hSw); go_simp; (try with_reducible rfl))); (try simp only [Act.put, s1, s2, s3]))
  refine wpAnyH_done (by kernel_rfl) ?_ _
  rotate_left
  · obtain ⟨g5, c5, T0, rfl, mc1, mc2, hT0, CA, CB⟩ := pages_two _ n1 n2 n3 HB.out HI.out (by rw [List.length_replicate]; exact hps) w5 w2.heap.size v5 hr5
    rw [List.length_replicate] at mc1 CA CB
    unfold maxLen at mc2
    have CA := Lib.hid CA
    have CB := Lib.hid CB
    rw [List.length_replicate]
    have mc3 : ps.length ≤ c5 := by omega
    clear hHd
    go_wp2_with fail
    (refine wp_region_held_drew (S := (fun w' => (∀ b o, b < w5.heap.size → w'.cell? ⟨b, o, none⟩ = w5.cell? ⟨b, o, none⟩) ∧ Kp w5 w')) (by kernel_rfl) ?_ (fun hHd => ?_); (focus ((try dsimp only); (first | with_reducible assumption | with_reducible exact held_start _ | with_reducible exact held_next (by assumption) (by assumption) | with_reducible exact held_alloc (by assumption) _ | with_reducible exact held_drew (by assumption) | ((with_reducible refine held_kp ?_); (repeat (first | with_reducible assumption | with_reducible exact Kp.refl _ | with_reducible refine Kp.drew ?_ | with_reducible refine Kp.drewN ?_ _ | with_reducible refine Kp.alloc ?_ _ | ((with_reducible refine Kp.setCell ?_ ?_ _); rotate_left; (focus (first | omega | (simp; done) | (simp; omega)))) | with_reducible refine Kp.trans ?_ (by assumption))))))))
    (refine takeH (i := 0) (oi := ?o35) (v := ?v35) ?h35 (by kernel_rfl) ?q35 (Or.inl ⟨?w35, ?y35⟩) (by assumption) ?r35; (case h35 => ((simp only [g1, g3]); rfl)); (case q35 => exact fun _ _ _ h => h); (case w35 => rfl); (case y35 => (intro w' hSw; (try dsimp only at hSw); go_simp; (try with_reducible rfl))); (try simp only [Act.put, s1, s2, s3]))
    (refine takeH (i := 2) (oi := ?o36) (v := ?v36) ?h36 (by kernel_rfl) ?q36 (Or.inl ⟨?w36, ?y36⟩) (by assumption) ?r36; (case h36 => ((simp only [g1, g2, g3]); rfl)); (case q36 => exact fun _ _ _ h => h); (case w36 => rfl); (case y36 => (intro w' hSw; (try dsimp only at hSw); go_simp; (try with_reducible rfl))); (try simp only [Act.put, s1, s2, s3]))
    (refine takeH (i := 3) (oi := ?o37) (v := ?v37) ?h37 (by kernel_rfl) ?q37 (Or.inl ⟨?w37, ?y37⟩) (by assumption) ?r37; (case h37 => ((simp only [g1, g2, g3]); rfl)); (case q37 => exact fun _ _ _ h => h); (case w37 => rfl); (case y37 => (intro w' hSw; (try dsimp only at hSw); go_simp; (try with_reducible rfl))); (try simp only [Act.put, s1, s2, s3]))
    (refine takeH (i := 4) (oi := ?o38) (v := ?v38) ?h38 (by kernel_rfl) ?q38 (Or.inl ⟨?w38, ?y38⟩) (by assumption) ?r38; (case h38 => ((simp only [g1, g2, g3]); rfl)); (case q38 => exact fun _ _ _ h => h); (case w38 => rfl); (case y38 => (intro w' hSw; (try dsimp only at hSw); go_simp; (try with_reducible rfl))); (try simp only [Act.put, s1, s2, s3]))
    (refine wpAnyH_ready (rs := [1]) (by kernel_rfl) (by simp) ?_; refine AllReadyH.cons (o := ?o39) ?h39 (fun K hK => ?s39) AllReadyH.nil; (case h39 => (first | ((simp only [g1, g2, g3]); rfl) | rfl)); (go_simp; go_at_call 15; refine (CA.out _ hHd.2).mono ?_; rintro e w6 ⟨rfl, kk6⟩; (try dsimp only)); refine hK.out _ _ ?_ (fun hHd => ?_); (focus ((try dsimp only); exact held_kp (hHd.2.trans kk6))); clear hK K; (try simp only [Act.put]))
    (refine wpAnyH_ready (rs := [5]) (by kernel_rfl) (by simp) ?_; refine AllReadyH.cons (o := ?o41) ?h41 (fun K hK => ?s41) AllReadyH.nil; (case h41 => (first | ((simp only [g1, g2, g3]); rfl) | rfl)); (go_simp; go_at_call 15; refine (CB.out _ hHd.2).mono ?_; rintro e w7 ⟨rfl, kk7⟩; (try dsimp only)); refine hK.out _ _ ?_ (fun hHd => ?_); (focus ((try dsimp only); exact held_kp (hHd.2.trans kk7))); clear hK K; (try simp only [Act.put]))
    (refine takeH (i := 6) (oi := ?o43) (v := ?v43) ?h43 (by kernel_rfl) ?q43 (Or.inl ⟨?w43, ?y43⟩) (by assumption) ?r43; (case h43 => ((simp only [g1, g2, g3]); rfl)); (case q43 => exact fun _ _ _ h => h); (case w43 => rfl); (case y43 => (intro w' hSw; (try dsimp only at hSw); go_simp; (try with_reducible rfl))); (try simp only [Act.put, s1, s2, s3]))
    (refine takeH (i := 7) (oi := ?o44) (v := ?v44) ?h44 (by kernel_rfl) ?q44 (Or.inl ⟨?w44, ?y44⟩) (by assumption) ?r44; (case h44 => ((simp only [g1, g2, g3]); rfl)); (case q44 => exact fun _ _ _ h => h); (case w44 => rfl); (case y44 => (intro w' hSw; (try dsimp only at hSw); go_simp; (try with_reducible rfl))); (try simp only [Act.put, s1, s2, s3]))
    refine wpAnyH_done (by kernel_rfl) ?_ _
    have kw7 : Kp w2 w7 := k5.trans hHd.2
    have kww : Kp w w7 := (kw1.trans kw2).trans kw7
    have HR7 := Lib.hid (HR.out.kp kww)
    have bp7 := bp.kp kw7
    have br7 := br.kp kw7
    have bp7l := bp7.lt
    have br7l := br7.lt
    have z0 := bp7.cell 0 rfl
    have z1 := bp7.cell 1 rfl
    have z2 := bp7.cell 2 rfl
    have z3 := bp7.cell 3 rfl
    rw [HL1.out]
    obtain ⟨T1, hT1⟩ : ∃ T1, T0 ++ (L1 ++ [10]) = T1 := ⟨_, rfl⟩
    have t0 : (T1 == T0 ++ (line ++ [10])) = B := by rw [← hT1, ← HBe.out]; exact eq_tail _ _ _
    rw [hT1]
    have hc1 : ¬ 9223372036854775807 < T0.length + line.length := by omega
    have hc2 : ¬ 9223372036854775807 < T0.length + line.length + 1 := by omega
    have hc3 : ¬ 9223372036854775807 < T0.length + (line.length + 1) := by omega
    have BA := @ba_append
    clear hHd CA CB hT1 hz hr5 hg5 hl5 kk6 kk7
    go_wp2_with (at_builtin; go_loud (refine rowAppendXL ?gd (.tmp 47) (.tmp 49) 23 ?ho Tryd.underlying23 infoPg rfl (by decide) (HR7.out.alloc _) ?hs (b := w7.heap.size) (t' := 49) (y := (⟨⟨none, 0, 0, []⟩, n1, n2, n3⟩ : Page)) rfl (pageOne _) ?hk ?hx ?hl ?hb ?hz ?_; (case gd => rfl); (case ho => rfl); (case hs => rfl); (case hx => rfl); (case hk => exact (by (repeat (first | with_reducible assumption | ((with_reducible refine Blk.newL ?_ ?_); (focus (first | (simp; done) | omega)); rfl) | with_reducible refine Blk.drew ?_ | with_reducible refine Blk.drewN ?_ _ | with_reducible refine Blk.alloc ?_ _ | ((with_reducible refine Blk.other ?_ ?_ _); rotate_left; (focus (first | with_reducible assumption | omega | (simp; done) | (simp; omega)))))))); (case hl => unfold maxLen; omega); (case hb => omega); (case hz => exact Nat.le_trans hb (Nat.le_trans kww.size (by simp))); intro v8 w8 hr8 hg8 hl8; have hg9 : w.grownBy w8 (Value.slice va ps.length vc).ownBlock := grown_trans ((kww.alloc _).grownBy) hg8; have br8 : Blk w8 w.heap.size [.slice none 0 0, .int .i64 0, .bool false] 27 := (Blk.alloc br7 _).grown1 hg8 (fun e => by have := HR0.out _ e; omega); obtain ⟨a8, c8, rfl, _⟩ := hr8.sl (fun _ => rfl); have y0 := br8.cell 0 rfl; have y1 := br8.cell 1 rfl; have y2 := br8.cell 2 rfl; have f0 := br8.free 0; have f1 := br8.free 1; have f2 := br8.free 2))
    have hr9 := hr8
    rw [List.length_append, List.length_singleton] at hr9
    have zz := (((br8.set 0 (.slice a8 (ps.length + 1) c8)).set 1 (.int .i64 0)).set 2 (.bool B))
    have x0 := zz.cell 0 rfl
    have x1 := zz.cell 1 rfl
    have x2 := zz.cell 2 rfl
    clear y0 y1 y2
    refine bodyPost_ret (v := .agg #[.slice a8 (ps.length + 1) c8, .int .i64 0, .bool B]) (by simp [results, Tryd.results22, go_sem, x0, x1, x2]) rfl ?_
    exact ⟨_, rfl, row_away (row_away (row_away hr9 br8 (by decide) 0 _) (br8.set 0 _) (by decide) 1 _) ((br8.set 0 _).set 1 _) (by decide) 2 _, grown_set (grown_set (grown_set hg9 (Nat.le_refl _) 0 _) (Nat.le_refl _) 1 _) (Nat.le_refl _) 2 _⟩
  · obtain ⟨g5, c5, T0, rfl, mc1, mc2, hT0, CA, CB⟩ := pages_two _ n1 n2 n3 HB.out HI.out (by rw [List.length_replicate]; exact hps) w5 w2.heap.size v5 hr5
    rw [List.length_replicate] at mc1 CA CB
    unfold maxLen at mc2
    have CA := Lib.hid CA
    have CB := Lib.hid CB
    rw [List.length_replicate]
    have mc3 : ps.length ≤ c5 := by omega
    clear hHd
    go_wp2_with fail
    (refine wp_region_held_drew (S := (fun w' => (∀ b o, b < w5.heap.size → w'.cell? ⟨b, o, none⟩ = w5.cell? ⟨b, o, none⟩) ∧ Kp w5 w')) (by kernel_rfl) ?_ (fun hHd => ?_); (focus ((try dsimp only); (first | with_reducible assumption | with_reducible exact held_start _ | with_reducible exact held_next (by assumption) (by assumption) | with_reducible exact held_alloc (by assumption) _ | with_reducible exact held_drew (by assumption) | ((with_reducible refine held_kp ?_); (repeat (first | with_reducible assumption | with_reducible exact Kp.refl _ | with_reducible refine Kp.drew ?_ | with_reducible refine Kp.drewN ?_ _ | with_reducible refine Kp.alloc ?_ _ | ((with_reducible refine Kp.setCell ?_ ?_ _); rotate_left; (focus (first | omega | (simp; done) | (simp; omega)))) | with_reducible refine Kp.trans ?_ (by assumption))))))))
    (refine takeH (i := 0) (oi := ?o45) (v := ?v45) ?h45 (by kernel_rfl) ?q45 (Or.inl ⟨?w45, ?y45⟩) (by assumption) ?r45; (case h45 => ((simp only [g1, g3]); rfl)); (case q45 => exact fun _ _ _ h => h); (case w45 => rfl); (case y45 => (intro w' hSw; (try dsimp only at hSw); go_simp; (try with_reducible rfl))); (try simp only [Act.put, s1, s2, s3]))
    (refine takeH (i := 2) (oi := ?o46) (v := ?v46) ?h46 (by kernel_rfl) ?q46 (Or.inl ⟨?w46, ?y46⟩) (by assumption) ?r46; (case h46 => ((simp only [g1, g2, g3]); rfl)); (case q46 => exact fun _ _ _ h => h); (case w46 => rfl); (case y46 => (intro w' hSw; (try dsimp only at hSw); go_simp; (try with_reducible rfl))); (try simp only [Act.put, s1, s2, s3]))
    (refine takeH (i := 3) (oi := ?o47) (v := ?v47) ?h47 (by kernel_rfl) ?q47 (Or.inl ⟨?w47, ?y47⟩) (by assumption) ?r47; (case h47 => ((simp only [g1, g2, g3]); rfl)); (case q47 => exact fun _ _ _ h => h); (case w47 => rfl); (case y47 => (intro w' hSw; (try dsimp only at hSw); go_simp; (try with_reducible rfl))); (try simp only [Act.put, s1, s2, s3]))
    (refine takeH (i := 4) (oi := ?o48) (v := ?v48) ?h48 (by kernel_rfl) ?q48 (Or.inl ⟨?w48, ?y48⟩) (by assumption) ?r48; (case h48 => ((simp only [g1, g2, g3]); rfl)); (case q48 => exact fun _ _ _ h => h); (case w48 => rfl); (case y48 => (intro w' hSw; (try dsimp only at hSw); go_simp; (try with_reducible rfl))); (try simp only [Act.put, s1, s2, s3]))
    (refine wpAnyH_ready (rs := [1]) (by kernel_rfl) (by simp) ?_; refine AllReadyH.cons (o := ?o49) ?h49 (fun K hK => ?s49) AllReadyH.nil; (case h49 => (first | ((simp only [g1, g2, g3]); rfl) | rfl)); (go_simp; go_at_call 15; refine (CA.out _ hHd.2).mono ?_; rintro e w6 ⟨rfl, kk6⟩; (try dsimp only)); refine hK.out _ _ ?_ (fun hHd => ?_); (focus ((try dsimp only); exact held_kp (hHd.2.trans kk6))); clear hK K; (try simp only [Act.put]))
    (refine wpAnyH_ready (rs := [5]) (by kernel_rfl) (by simp) ?_; refine AllReadyH.cons (o := ?o51) ?h51 (fun K hK => ?s51) AllReadyH.nil; (case h51 => (first | ((simp only [g1, g2, g3]); rfl) | rfl)); (go_simp; go_at_call 15; refine (CB.out _ hHd.2).mono ?_; rintro e w7 ⟨rfl, kk7⟩; (try dsimp only)); refine hK.out _ _ ?_ (fun hHd => ?_); (focus ((try dsimp only); exact held_kp (hHd.2.trans kk7))); clear hK K; (try simp only [Act.put]))
    (refine takeH (i := 6) (oi := ?o53) (v := ?v53) ?h53 (by kernel_rfl) ?q53 (Or.inl ⟨?w53, ?y53⟩) (by assumption) ?r53; (case h53 => ((simp only [g1, g2, g3]); rfl)); (case q53 => exact fun _ _ _ h => h); (case w53 => rfl); (case y53 => (intro w' hSw; (try dsimp only at hSw); go_simp; (try with_reducible rfl))); (try simp only [Act.put, s1, s2, s3]))
    (refine takeH (i := 7) (oi := ?o54) (v := ?v54) ?h54 (by kernel_rfl) ?q54 (Or.inl ⟨?w54, ?y54⟩) (by assumption) ?r54; (case h54 => ((simp only [g1, g2, g3]); rfl)); (case q54 => exact fun _ _ _ h => h); (case w54 => rfl); (case y54 => (intro w' hSw; (try dsimp only at hSw); go_simp; (try with_reducible rfl))); (try simp only [Act.put, s1, s2, s3]))
    refine wpAnyH_done (by kernel_rfl) ?_ _
    have kw7 : Kp w2 w7 := k5.trans hHd.2
    have kww : Kp w w7 := (kw1.trans kw2).trans kw7
    have HR7 := Lib.hid (HR.out.kp kww)
    have bp7 := bp.kp kw7
    have br7 := br.kp kw7
    have bp7l := bp7.lt
    have br7l := br7.lt
    have z0 := bp7.cell 0 rfl
    have z1 := bp7.cell 1 rfl
    have z2 := bp7.cell 2 rfl
    have z3 := bp7.cell 3 rfl
    rw [HL1.out]
    obtain ⟨T1, hT1⟩ : ∃ T1, T0 ++ (L1 ++ [10]) = T1 := ⟨_, rfl⟩
    have t0 : (T1 == T0 ++ (line ++ [10])) = B := by rw [← hT1, ← HBe.out]; exact eq_tail _ _ _
    rw [hT1]
    have hc1 : ¬ 9223372036854775807 < T0.length + line.length := by omega
    have hc2 : ¬ 9223372036854775807 < T0.length + line.length + 1 := by omega
    have hc3 : ¬ 9223372036854775807 < T0.length + (line.length + 1) := by omega
    have BA := @ba_append
    clear hHd CA CB hT1 hz hr5 hg5 hl5 kk6 kk7
    go_wp2_with (at_builtin; go_loud (refine rowAppendXL ?gd (.tmp 47) (.tmp 49) 23 ?ho Tryd.underlying23 infoPg rfl (by decide) (HR7.out.alloc _) ?hs (b := w7.heap.size) (t' := 49) (y := (⟨⟨none, 0, 0, []⟩, n1, n2, n3⟩ : Page)) rfl (pageOne _) ?hk ?hx ?hl ?hb ?hz ?_; (case gd => rfl); (case ho => rfl); (case hs => rfl); (case hx => rfl); (case hk => exact (by (repeat (first | with_reducible assumption | ((with_reducible refine Blk.newL ?_ ?_); (focus (first | (simp; done) | omega)); rfl) | with_reducible refine Blk.drew ?_ | with_reducible refine Blk.drewN ?_ _ | with_reducible refine Blk.alloc ?_ _ | ((with_reducible refine Blk.other ?_ ?_ _); rotate_left; (focus (first | with_reducible assumption | omega | (simp; done) | (simp; omega)))))))); (case hl => unfold maxLen; omega); (case hb => omega); (case hz => exact Nat.le_trans hb (Nat.le_trans kww.size (by simp))); intro v8 w8 hr8 hg8 hl8; have hg9 : w.grownBy w8 (Value.slice va ps.length vc).ownBlock := grown_trans ((kww.alloc _).grownBy) hg8; have br8 : Blk w8 w.heap.size [.slice none 0 0, .int .i64 0, .bool false] 27 := (Blk.alloc br7 _).grown1 hg8 (fun e => by have := HR0.out _ e; omega); obtain ⟨a8, c8, rfl, _⟩ := hr8.sl (fun _ => rfl); have y0 := br8.cell 0 rfl; have y1 := br8.cell 1 rfl; have y2 := br8.cell 2 rfl; have f0 := br8.free 0; have f1 := br8.free 1; have f2 := br8.free 2))
    have hr9 := hr8
    rw [List.length_append, List.length_singleton] at hr9
    have zz := (((br8.set 0 (.slice a8 (ps.length + 1) c8)).set 1 (.int .i64 0)).set 2 (.bool B))
    have x0 := zz.cell 0 rfl
    have x1 := zz.cell 1 rfl
    have x2 := zz.cell 2 rfl
    clear y0 y1 y2
    refine bodyPost_ret (v := .agg #[.slice a8 (ps.length + 1) c8, .int .i64 0, .bool B]) (by simp [results, Tryd.results22, go_sem, x0, x1, x2]) rfl ?_
    exact ⟨_, rfl, row_away (row_away (row_away hr9 br8 (by decide) 0 _) (br8.set 0 _) (by decide) 1 _) ((br8.set 0 _).set 1 _) (by decide) 2 _, grown_set (grown_set (grown_set hg9 (Nat.le_refl _) 0 _) (Nat.le_refl _) 1 _) (Nat.le_refl _) 2 _⟩
  · obtain ⟨g5, c5, T0, rfl, mc1, mc2, hT0, CA, CB⟩ := pages_two _ n1 n2 n3 HB.out HI.out (by rw [List.length_replicate]; exact hps) w5 w2.heap.size v5 hr5
    rw [List.length_replicate] at mc1 CA CB
    unfold maxLen at mc2
    have CA := Lib.hid CA
    have CB := Lib.hid CB
    rw [List.length_replicate]
    have mc3 : ps.length ≤ c5 := by omega
    clear hHd
    go_wp2_with fail
    (refine wp_region_held_drew (S := (fun w' => (∀ b o, b < w5.heap.size → w'.cell? ⟨b, o, none⟩ = w5.cell? ⟨b, o, none⟩) ∧ Kp w5 w')) (by kernel_rfl) ?_ (fun hHd => ?_); (focus ((try dsimp only); (first | with_reducible assumption | with_reducible exact held_start _ | with_reducible exact held_next (by assumption) (by assumption) | with_reducible exact held_alloc (by assumption) _ | with_reducible exact held_drew (by assumption) | ((with_reducible refine held_kp ?_); (repeat (first | with_reducible assumption | with_reducible exact Kp.refl _ | with_reducible refine Kp.drew ?_ | with_reducible refine Kp.drewN ?_ _ | with_reducible refine Kp.alloc ?_ _ | ((with_reducible refine Kp.setCell ?_ ?_ _); rotate_left; (focus (first | omega | (simp; done) | (simp; omega)))) | with_reducible refine Kp.trans ?_ (by assumption))))))))
    (refine takeH (i := 0) (oi := ?o55) (v := ?v55) ?h55 (by kernel_rfl) ?q55 (Or.inl ⟨?w55, ?y55⟩) (by assumption) ?r55; (case h55 => ((simp only [g1, g3]); rfl)); (case q55 => exact fun _ _ _ h => h); (case w55 => rfl); (case y55 => (intro w' hSw; (try dsimp only at hSw); go_simp; (try with_reducible rfl))); (try simp only [Act.put, s1, s2, s3]))
    (refine takeH (i := 2) (oi := ?o56) (v := ?v56) ?h56 (by kernel_rfl) ?q56 (Or.inl ⟨?w56, ?y56⟩) (by assumption) ?r56; (case h56 => ((simp only [g1, g2, g3]); rfl)); (case q56 => exact fun _ _ _ h => h); (case w56 => rfl); (case y56 => (intro w' hSw; (try dsimp only at hSw); go_simp; (try with_reducible rfl))); (try simp only [Act.put, s1, s2, s3]))
    (refine takeH (i := 3) (oi := ?o57) (v := ?v57) ?h57 (by kernel_rfl) ?q57 (Or.inl ⟨?w57, ?y57⟩) (by assumption) ?r57; (case h57 => ((simp only [g1, g2, g3]); rfl)); (case q57 => exact fun _ _ _ h => h); (case w57 => rfl); (case y57 => (intro w' hSw; (try dsimp only at hSw); go_simp; (try with_reducible rfl))); (try simp only [Act.put, s1, s2, s3]))
    (refine takeH (i := 4) (oi := ?o58) (v := ?v58) ?h58 (by kernel_rfl) ?q58 (Or.inl ⟨?w58, ?y58⟩) (by assumption) ?r58; (case h58 => ((simp only [g1, g2, g3]); rfl)); (case q58 => exact fun _ _ _ h => h); (case w58 => rfl); (case y58 => (intro w' hSw; (try dsimp only at hSw); go_simp; (try with_reducible rfl))); (try simp only [Act.put, s1, s2, s3]))
    (refine wpAnyH_ready (rs := [1]) (by kernel_rfl) (by simp) ?_; refine AllReadyH.cons (o := ?o59) ?h59 (fun K hK => ?s59) AllReadyH.nil; (case h59 => (first | ((simp only [g1, g2, g3]); rfl) | rfl)); (go_simp; go_at_call 15; refine (CA.out _ hHd.2).mono ?_; rintro e w6 ⟨rfl, kk6⟩; (try dsimp only)); refine hK.out _ _ ?_ (fun hHd => ?_); (focus ((try dsimp only); exact held_kp (hHd.2.trans kk6))); clear hK K; (try simp only [Act.put]))
    (refine wpAnyH_ready (rs := [5]) (by kernel_rfl) (by simp) ?_; refine AllReadyH.cons (o := ?o61) ?h61 (fun K hK => ?s61) AllReadyH.nil; (case h61 => (first | ((simp only [g1, g2, g3]); rfl) | rfl)); (go_simp; go_at_call 15; refine (CB.out _ hHd.2).mono ?_; rintro e w7 ⟨rfl, kk7⟩; (try dsimp only)); refine hK.out _ _ ?_ (fun hHd => ?_); (focus ((try dsimp only); exact held_kp (hHd.2.trans kk7))); clear hK K; (try simp only [Act.put]))
    (refine takeH (i := 6) (oi := ?o63) (v := ?v63) ?h63 (by kernel_rfl) ?q63 (Or.inl ⟨?w63, ?y63⟩) (by assumption) ?r63; (case h63 => ((simp only [g1, g2, g3]); rfl)); (case q63 => exact fun _ _ _ h => h); (case w63 => rfl); (case y63 => (intro w' hSw; (try dsimp only at hSw); go_simp; (try with_reducible rfl))); (try simp only [Act.put, s1, s2, s3]))
    (refine takeH (i := 7) (oi := ?o64) (v := ?v64) ?h64 (by kernel_rfl) ?q64 (Or.inl ⟨?w64, ?y64⟩) (by assumption) ?r64; (case h64 => ((simp only [g1, g2, g3]); rfl)); (case q64 => exact fun _ _ _ h => h); (case w64 => rfl); (case y64 => (intro w' hSw; (try dsimp only at hSw); go_simp; (try with_reducible rfl))); (try simp only [Act.put, s1, s2, s3]))
    refine wpAnyH_done (by kernel_rfl) ?_ _
    have kw7 : Kp w2 w7 := k5.trans hHd.2
    have kww : Kp w w7 := (kw1.trans kw2).trans kw7
    have HR7 := Lib.hid (HR.out.kp kww)
    have bp7 := bp.kp kw7
    have br7 := br.kp kw7
    have bp7l := bp7.lt
    have br7l := br7.lt
    have z0 := bp7.cell 0 rfl
    have z1 := bp7.cell 1 rfl
    have z2 := bp7.cell 2 rfl
    have z3 := bp7.cell 3 rfl
    rw [HL1.out]
    obtain ⟨T1, hT1⟩ : ∃ T1, T0 ++ (L1 ++ [10]) = T1 := ⟨_, rfl⟩
    have t0 : (T1 == T0 ++ (line ++ [10])) = B := by rw [← hT1, ← HBe.out]; exact eq_tail _ _ _
    rw [hT1]
    have hc1 : ¬ 9223372036854775807 < T0.length + line.length := by omega
    have hc2 : ¬ 9223372036854775807 < T0.length + line.length + 1 := by omega
    have hc3 : ¬ 9223372036854775807 < T0.length + (line.length + 1) := by omega
    have BA := @ba_append
    clear hHd CA CB hT1 hz hr5 hg5 hl5 kk6 kk7
    go_wp2_with (at_builtin; go_loud (refine rowAppendXL ?gd (.tmp 47) (.tmp 49) 23 ?ho Tryd.underlying23 infoPg rfl (by decide) (HR7.out.alloc _) ?hs (b := w7.heap.size) (t' := 49) (y := (⟨⟨none, 0, 0, []⟩, n1, n2, n3⟩ : Page)) rfl (pageOne _) ?hk ?hx ?hl ?hb ?hz ?_; (case gd => rfl); (case ho => rfl); (case hs => rfl); (case hx => rfl); (case hk => exact (by (repeat (first | with_reducible assumption | ((with_reducible refine Blk.newL ?_ ?_); (focus (first | (simp; done) | omega)); rfl) | with_reducible refine Blk.drew ?_ | with_reducible refine Blk.drewN ?_ _ | with_reducible refine Blk.alloc ?_ _ | ((with_reducible refine Blk.other ?_ ?_ _); rotate_left; (focus (first | with_reducible assumption | omega | (simp; done) | (simp; omega)))))))); (case hl => unfold maxLen; omega); (case hb => omega); (case hz => exact Nat.le_trans hb (Nat.le_trans kww.size (by simp))); intro v8 w8 hr8 hg8 hl8; have hg9 : w.grownBy w8 (Value.slice va ps.length vc).ownBlock := grown_trans ((kww.alloc _).grownBy) hg8; have br8 : Blk w8 w.heap.size [.slice none 0 0, .int .i64 0, .bool false] 27 := (Blk.alloc br7 _).grown1 hg8 (fun e => by have := HR0.out _ e; omega); obtain ⟨a8, c8, rfl, _⟩ := hr8.sl (fun _ => rfl); have y0 := br8.cell 0 rfl; have y1 := br8.cell 1 rfl; have y2 := br8.cell 2 rfl; have f0 := br8.free 0; have f1 := br8.free 1; have f2 := br8.free 2))
    have hr9 := hr8
    rw [List.length_append, List.length_singleton] at hr9
    have zz := (((br8.set 0 (.slice a8 (ps.length + 1) c8)).set 1 (.int .i64 0)).set 2 (.bool B))
    have x0 := zz.cell 0 rfl
    have x1 := zz.cell 1 rfl
    have x2 := zz.cell 2 rfl
    clear y0 y1 y2
    refine bodyPost_ret (v := .agg #[.slice a8 (ps.length + 1) c8, .int .i64 0, .bool B]) (by simp [results, Tryd.results22, go_sem, x0, x1, x2]) rfl ?_
    exact ⟨_, rfl, row_away (row_away (row_away hr9 br8 (by decide) 0 _) (br8.set 0 _) (by decide) 1 _) ((br8.set 0 _).set 1 _) (by decide) 2 _, grown_set (grown_set (grown_set hg9 (Nat.le_refl _) 0 _) (Nat.le_refl _) 1 _) (Nat.le_refl _) 2 _⟩
end Go.Proofs.YteadhacoglcbfaaDoor
