/- Part 15 of the proof: The document's pages with a line more: a lane. -/
import Derived.Test.YteadhacoglcbfaaDoorZ14
namespace Go.Proofs.YteadhacoglcbfaaDoor

open Go.ChangeShapes Go.WideShapes Go.ChangeAt Go.RowKit Go.Shelf

theorem sl_one {α : Type} {w : World} {b n : Nat} {enc : α → List Value} {x : α} {t : TypeId} (h : Blk w b (enc x) t) : SlOk w n enc (some ⟨b, 0, none⟩) 1 1 [x] := by
  refine ⟨rfl, Nat.le_refl _, by unfold maxLen; omega, .inr ⟨b, 0, rfl, h.lt, fun i y hy j v hv => ?_⟩⟩
  rcases i with _ | i
  · simp only [List.getElem?_cons_zero, Option.some.injEq] at hy
    subst hy
    have := h.cell j hv
    rwa [Nat.zero_mul, Nat.zero_add]
  · simp at hy
def cPage : List UInt8 := [112, 97, 103, 101, 32, 48, 32, 48, 32, 48, 32, 48, 10]
theorem cPage_eq : cPage = lineL wPage [0, 0, 0, 0] ++ [10] := by simp [cPage, lineL, numL, ig0]
/-- The text of a page with a lane. -/
theorem pages_lane (n0 : Int) (hI : I64 n0) (b c : Nat) (w : World) (hc : Blk w c [.slice (some ⟨b, 0, none⟩) 1 1, .int .i64 0, .int .i64 0, .int .i64 0] 49) (hb : Blk w b [.int .i64 n0, .slice none 0 0] 46) :
    Calls Tryd.prog 15 #[.slice (some ⟨c, 0, none⟩) 1 1] w fun e w' => e = .returned (sv (cPage ++ (lineL wLane [n0] ++ [10]))) ∧ Kp w w' := by
  have hlane : (⟨n0, ⟨none, 0, 0, []⟩⟩ : Lane).good w := ⟨hI, ⟨rfl, Nat.le_refl _, Nat.zero_le _, .inl rfl⟩, fun p hp => by cases hp⟩
  have h0 : I64 0 := by unfold I64; decide
  have h := refPages_any (some ⟨c, 0, none⟩) 1 [⟨⟨some ⟨b, 0, none⟩, 1, 1, [⟨n0, ⟨none, 0, 0, []⟩⟩]⟩, 0, 0, 0⟩] w (sl_one (enc := Page.cells) hc) (fun y hy => by
    rw [List.mem_singleton] at hy; subst hy
    refine ⟨h0, h0, h0, sl_one (enc := Lane.cells) hb, fun z hz => ?_⟩
    rw [List.mem_singleton] at hz; subst hz
    exact hlane) ⟨by rw [List.length_singleton]; omega, fun p hp => by rw [List.mem_singleton] at hp; subst hp; exact (by decide : 1 ≤ 3000), fun p hp x hx => by
      rw [List.mem_singleton] at hp; subst hp
      rw [List.mem_singleton] at hx; subst hx
      exact Nat.zero_le _⟩
  have e : pagesN [(⟨⟨some ⟨b, 0, none⟩, 1, 1, [⟨n0, ⟨none, 0, 0, []⟩⟩]⟩, 0, 0, 0⟩ : Page)] 1 = cPage ++ (lineL wLane [n0] ++ [10]) := by
    rw [cPage_eq]
    simp [pagesN, pageL, pageH, laneL, laneH, List.range_succ]
  rw [List.length_singleton, e] at h
  exact h
theorem Twain.kp {w a b : World} {r1 r2 : Option Nat} (h : Twain w a r1 r2) (k : Kp a b) : Twain w b r1 r2 :=
  ⟨k.os.trans h.os, k.tape.trans h.tape, k.output.trans h.output, Nat.le_trans h.size k.size, fun i hi h1 h2 => (k.block i (Nat.lt_of_lt_of_le hi h.size)).trans (h.block i hi h1 h2)⟩
theorem Twain.set {w a : World} {r1 r2 : Option Nat} (h : Twain w a r1 r2) {B : Nat} (hB : w.heap.size ≤ B) (o : Nat) (u : Value) : Twain w (a.setCell ⟨B, o, none⟩ u) r1 r2 :=
  ⟨h.os, h.tape, h.output, by have := h.size; simpa using this, fun i hi h1 h2 => (Below.heap_setCell _ _ _ _ (fun e => by
    have e' : i = B := e
    omega)).trans (h.block i hi h1 h2)⟩
set_option maxRecDepth 100000 in
set_option maxHeartbeats 8000000 in
theorem one_lane (line : List UInt8) (ws : List (List UInt8)) (hw : splitW line = wLane :: ws) (n0 n1 n2 n3 : Int) (hn : (numsL line)[0]? = some n0 ∧ (numsL line)[1]? = some n1 ∧ (numsL line)[2]? = some n2 ∧ (numsL line)[3]? = some n3) (hI : I64 n0) (hs : line.length ≤ 10000)
    (base : Nat) (qs : List Page) (k g vc : Nat) (la : Option Addr) (lc : Nat) (ll : List Lane) (pt pf pl : Int) (hk : qs.length = k) (hps : k ≤ 1000000) (hll : ll.length ≤ 1000000) (w : World)
    (hr : Row w base 49 4 Page.cells (.slice (some ⟨g, 0, none⟩) (k + 1) vc) (qs ++ [⟨⟨la, ll.length, lc, ll⟩, pt, pf, pl⟩])) (hl : Row w base 46 2 Lane.cells (.slice la ll.length lc) ll) (hb : base ≤ w.heap.size)
    (L1 : List UInt8) (B : Bool) (hL1 : lineL wLane [n0] = L1) (hBe : (L1 == line) = B) :
    Calls Tryd.prog 22 #[.slice (some ⟨g, 0, none⟩) (k + 1) vc, sv line] w fun e w' => ∃ a' c', e = .returned (.agg #[.slice (some ⟨g, 0, none⟩) (k + 1) vc, .int .i64 0, .bool B]) ∧ Row w' base 49 4 Page.cells (.slice (some ⟨g, 0, none⟩) (k + 1) vc) (qs ++ [⟨⟨a', ll.length + 1, c', ll ++ [⟨n0, ⟨none, 0, 0, []⟩⟩]⟩, pt, pf, pl⟩]) ∧
      Row w' base 46 2 Lane.cells (.slice a' (ll.length + 1) c') (ll ++ [⟨n0, ⟨none, 0, 0, []⟩⟩]) ∧ Twain w w' (Value.slice la ll.length lc).ownBlock (some g) ∧ ((Value.slice a' (ll.length + 1) c').ownBlock = (Value.slice la ll.length lc).ownBlock ∨ ∃ b, (Value.slice a' (ll.length + 1) c').ownBlock = some b ∧ w.heap.size ≤ b) := by
  have HR := Lib.hid hr
  have HL := Lib.hid hl
  have HI := Lib.hid hI
  have HL1 := Lib.hid hL1
  have HBe := Lib.hid hBe
  clear hL1 hBe hI
  have hgg := (hr.lt g rfl).2
  obtain ⟨-, hvc1, hvm⟩ := hr.shape1 (by rw [List.length_append, List.length_singleton]; omega)
  unfold maxLen at hvm
  have HLG : Hid (∀ b, (Value.slice la ll.length lc).ownBlock = some b → b < w.heap.size ∧ b ≠ g) := Lib.hid fun b hb2 => ⟨(hl.lt b hb2).2, fun e => by
    obtain ⟨c1, h1⟩ := hl.type hb2
    obtain ⟨c2, h2⟩ := hr.type (g := g) rfl
    rw [e, h2] at h1
    cases h1⟩
  have ek : (k : Int) < (k : Int) + 1 := by omega
  have j2 : decide ((k : Int) + 1 = 0) = false := decide_eq_false (by omega)
  have j3 : (((k : Int) + 1) == 0) = false := beq_eq_false_iff_ne.2 (by omega)
  clear hr hl
  have CW2 := Lib.hid (fun w' => words_any line hs w')
  rw [hw] at CW2
  have CN := Lib.hid (fun w' => nums_any line hs w')
  have CW := Lib.hid (fun w' => words_any line hs w')
  rw [hw] at CW
  have HN := Lib.hid hn
  have h6 := numsL_len line
  clear hn hw
  go_enter Tryd.func22, Tryd.ntmps22
  go_wp2_with fail
  refine (CN.out _).mono ?_
  rintro e w1 ⟨v1, rfl, hr1, k1⟩
  obtain ⟨a1, c1, rfl, sl1⟩ := hr1.sl (fun _ => rfl)
  have m1 := sl1.2.1
  have m2 := sl1.2.2.1
  unfold maxLen at m2
  rcases sl1.2.2.2 with e | ⟨gn, o, rfl, hgn, r1⟩
  · rw [e] at h6; simp at h6
  have d0 := r1 0 _ HN.out.1 0 _ rfl
  have d1 := r1 1 _ HN.out.2.1 0 _ rfl
  have d2 := r1 2 _ HN.out.2.2.1 0 _ rfl
  have d3 := r1 3 _ HN.out.2.2.2 0 _ rfl
  simp only [Nat.add_zero, Nat.mul_one] at d0 d1 d2 d3
  have br1 : Blk w1 w.heap.size [.slice none 0 0, .int .i64 0, .bool false] 27 := Blk.kp (by (repeat (first | with_reducible assumption | ((with_reducible refine Blk.newL ?_ ?_); (focus (first | (simp; done) | omega)); rfl) | with_reducible refine Blk.drew ?_ | with_reducible refine Blk.drewN ?_ _ | with_reducible refine Blk.alloc ?_ _ | ((with_reducible refine Blk.other ?_ ?_ _); rotate_left; (focus (first | with_reducible assumption | omega | (simp; done) | (simp; omega))))))) k1
  have kw1 : Kp w w1 := ((by (repeat (first | with_reducible assumption | with_reducible exact Kp.refl _ | with_reducible refine Kp.drew ?_ | with_reducible refine Kp.drewN ?_ _ | with_reducible refine Kp.alloc ?_ _ | ((with_reducible refine Kp.setCell ?_ ?_ _); rotate_left; (focus (first | omega | (simp; done) | (simp; omega)))) | with_reducible refine Kp.trans ?_ (by assumption)))) : Kp w _).trans k1
  obtain ⟨L, hL⟩ : ∃ L, (numsL line).length = L := ⟨_, rfl⟩
  rw [hL] at h6 m1 ⊢
  have l0 : 0 < L := by omega
  have l1 : (1 : Int) < (L : Int) := by omega
  have l2 : (2 : Int) < (L : Int) := by omega
  have l3 : (3 : Int) < (L : Int) := by omega
  clear hr1 sl1 r1 k1 hL HN CN
  go_wp2_with fail
  (refine wp_region_held_drew (S := (fun w' => (∀ b o, b < w1.heap.size → w'.cell? ⟨b, o, none⟩ = w1.cell? ⟨b, o, none⟩) ∧ Kp w1 w')) (by kernel_rfl) ?_ (fun hHd => ?_); (focus ((try dsimp only); (first | with_reducible assumption | with_reducible exact held_start _ | with_reducible exact held_next (by assumption) (by assumption) | with_reducible exact held_alloc (by assumption) _ | with_reducible exact held_drew (by assumption) | ((with_reducible refine held_kp ?_); (repeat (first | with_reducible assumption | with_reducible exact Kp.refl _ | with_reducible refine Kp.drew ?_ | with_reducible refine Kp.drewN ?_ _ | with_reducible refine Kp.alloc ?_ _ | ((with_reducible refine Kp.setCell ?_ ?_ _); rotate_left; (focus (first | omega | (simp; done) | (simp; omega)))) | with_reducible refine Kp.trans ?_ (by assumption))))))))
  (refine takeH (i := 0) (oi := ?o1) (v := ?v1) ?h1 (by kernel_rfl) ?q1 (Or.inl ⟨?w1, ?y1⟩) (by assumption) ?r1; (case h1 => ((simp only [g1, g3]); rfl)); (case q1 => exact fun _ _ _ h => h); (case w1 => rfl); (case y1 => (intro w' hSw; (try dsimp only at hSw); go_simp; (try with_reducible rfl))); (try simp only [Act.put, s1, s2, s3]))
  (refine takeH (i := 1) (oi := ?o2) (v := ?v2) ?h2 (by kernel_rfl) ?q2 (Or.inl ⟨?w2, ?y2⟩) (by assumption) ?r2; (case h2 => ((simp only [g1, g2, g3]); rfl)); (case q2 => exact fun _ _ _ h => h); (case w2 => rfl); (case y2 => (intro w' hSw; (try dsimp only at hSw); go_simp; (try with_reducible rfl))); (try simp only [Act.put, s1, s2, s3]))
  (refine takeH (i := 2) (oi := ?o3) (v := ?v3) ?h3 (by kernel_rfl) ?q3 (Or.inl ⟨?w3, ?y3⟩) (by assumption) ?r3; (case h3 => ((simp only [g1, g2, g3]); rfl)); (case q3 => exact fun _ _ _ h => h); (case w3 => rfl); (case y3 => (intro w' hSw; (try dsimp only at hSw); go_simp; (try with_reducible rfl))); (try simp only [Act.put, s1, s2, s3]))
  (refine takeH (i := 3) (oi := ?o4) (v := ?v4) ?h4 (by kernel_rfl) ?q4 (Or.inl ⟨?w4, ?y4⟩) (by assumption) ?r4; (case h4 => ((simp only [g1, g2, g3]); rfl)); (case q4 => exact fun _ _ _ h => h); (case w4 => rfl); (case y4 => (intro w' hSw; (try dsimp only at hSw); go_simp; (try with_reducible rfl))); (try simp only [Act.put, s1, s2, s3]))
  (refine takeH (i := 4) (oi := ?o5) (v := ?v5) ?h5 (by kernel_rfl) ?q5 (Or.inl ⟨?w5, ?y5⟩) (by assumption) ?r5; (case h5 => ((simp only [g1, g2, g3]); rfl)); (case q5 => exact fun _ _ _ h => h); (case w5 => rfl); (case y5 => (intro w' hSw; (try dsimp only at hSw); go_simp; (try with_reducible rfl))); (try simp only [Act.put, s1, s2, s3]))
  (refine takeH (i := 5) (oi := ?o6) (v := ?v6) ?h6 (by kernel_rfl) ?q6 (Or.inl ⟨?w6, ?y6⟩) (by assumption) ?r6; (case h6 => ((simp only [g1, g2, g3]); rfl)); (case q6 => exact fun _ _ _ h => h); (case w6 => rfl); (case y6 => (intro w' hSw; (try dsimp only at hSw); go_simp; (try with_reducible rfl))); (try simp only [Act.put, s1, s2, s3]))
  (refine takeH (i := 6) (oi := ?o7) (v := ?v7) ?h7 (by kernel_rfl) ?q7 (Or.inl ⟨?w7, ?y7⟩) (by assumption) ?r7; (case h7 => ((simp only [g1, g2, g3]); rfl)); (case q7 => exact fun _ _ _ h => h); (case w7 => rfl); (case y7 => (intro w' hSw; (try dsimp only at hSw); go_simp; (try with_reducible rfl))); (try simp only [Act.put, s1, s2, s3]))
  (refine takeH (i := 7) (oi := ?o8) (v := ?v8) ?h8 (by kernel_rfl) ?q8 (Or.inl ⟨?w8, ?y8⟩) (by assumption) ?r8; (case h8 => ((simp only [g1, g2, g3]); rfl)); (case q8 => exact fun _ _ _ h => h); (case w8 => rfl); (case y8 => (intro w' hSw; (try dsimp only at hSw); go_simp; (try with_reducible rfl))); (try simp only [Act.put, s1, s2, s3]))
  (refine takeH (i := 8) (oi := ?o9) (v := ?v9) ?h9 (by kernel_rfl) ?q9 (Or.inl ⟨?w9, ?y9⟩) (by assumption) ?r9; (case h9 => ((simp only [g1, g2, g3]); rfl)); (case q9 => exact fun _ _ _ h => h); (case w9 => rfl); (case y9 => (intro w' hSw; (try dsimp only at hSw); go_simp; (try with_reducible rfl))); (try simp only [Act.put, s1, s2, s3]))
  (refine takeH (i := 9) (oi := ?o10) (v := ?v10) ?h10 (by kernel_rfl) ?q10 (Or.inl ⟨?w10, ?y10⟩) (by assumption) ?r10; (case h10 => ((simp only [g1, g2, g3]); rfl)); (case q10 => exact fun _ _ _ h => h); (case w10 => rfl); (case y10 => (intro w' hSw; (try dsimp only at hSw); go_simp; (try with_reducible rfl))); (try simp only [Act.put, s1, s2, s3]))
  (refine wpAnyH_ready (rs := [10]) (by kernel_rfl) (by simp) ?_; refine AllReadyH.cons (o := ?o11) ?h11 (fun K hK => ?s11) AllReadyH.nil; (case h11 => (first | ((simp only [g1, g2, g3]); rfl) | rfl)); go_simp; (try dsimp only); refine hK.out _ _ ?_ (fun hHd => ?_); (focus ((try dsimp only); (first | with_reducible assumption | with_reducible exact held_start _ | with_reducible exact held_next (by assumption) (by assumption) | with_reducible exact held_alloc (by assumption) _ | with_reducible exact held_drew (by assumption) | ((with_reducible refine held_kp ?_); (repeat (first | with_reducible assumption | with_reducible exact Kp.refl _ | with_reducible refine Kp.drew ?_ | with_reducible refine Kp.drewN ?_ _ | with_reducible refine Kp.alloc ?_ _ | ((with_reducible refine Kp.setCell ?_ ?_ _); rotate_left; (focus (first | omega | (simp; done) | (simp; omega)))) | with_reducible refine Kp.trans ?_ (by assumption))))))); clear hK K; (try simp only [Act.put, s1, s2, s3]))
  (refine wpAnyH_ready (rs := [11]) (by kernel_rfl) (by simp) ?_; refine AllReadyH.cons (o := ?o12) ?h12 (fun K hK => ?s12) AllReadyH.nil; (case h12 => (first | ((simp only [g1, g2, g3]); rfl) | rfl)); go_simp; (try dsimp only); refine hK.out _ _ ?_ (fun hHd => ?_); (focus ((try dsimp only); (first | with_reducible assumption | with_reducible exact held_start _ | with_reducible exact held_next (by assumption) (by assumption) | with_reducible exact held_alloc (by assumption) _ | with_reducible exact held_drew (by assumption) | ((with_reducible refine held_kp ?_); (repeat (first | with_reducible assumption | with_reducible exact Kp.refl _ | with_reducible refine Kp.drew ?_ | with_reducible refine Kp.drewN ?_ _ | with_reducible refine Kp.alloc ?_ _ | ((with_reducible refine Kp.setCell ?_ ?_ _); rotate_left; (focus (first | omega | (simp; done) | (simp; omega)))) | with_reducible refine Kp.trans ?_ (by assumption))))))); clear hK K; (try simp only [Act.put, s1, s2, s3]))
  refine wpAnyH_done (by kernel_rfl) ?_ _
  clear hHd
  go_wp2_with fail
  refine (CW.out _).mono ?_
  rintro e w2 ⟨v2, rfl, hr2, k2⟩
  obtain ⟨a2, c2, rfl, sl2⟩ := hr2.sl (fun _ => rfl)
  have m3 := sl2.2.1
  have m4 := sl2.2.2.1
  unfold maxLen at m4
  rcases sl2.2.2.2 with e | ⟨g2', o2, rfl, hg2, r2⟩
  · cases e
  have q0 := r2 0 _ rfl 0 _ rfl
  simp only [Nat.add_zero, Nat.mul_one] at q0
  have kw2 : Kp w1 w2 := ((by (repeat (first | with_reducible assumption | with_reducible exact Kp.refl _ | with_reducible refine Kp.drew ?_ | with_reducible refine Kp.drewN ?_ _ | with_reducible refine Kp.alloc ?_ _ | ((with_reducible refine Kp.setCell ?_ ?_ _); rotate_left; (focus (first | omega | (simp; done) | (simp; omega)))) | with_reducible refine Kp.trans ?_ (by assumption)))) : Kp w1 _).trans k2
  have br := br1.kp kw2
  have brl := br1.lt
  clear hr2 sl2 r2 k2 CW
  have hX2 := kw2.size
  have kww2 : Kp w w2 := kw1.trans kw2
  have hgg2 := Nat.lt_of_lt_of_le hgg kww2.size
  have hgn2 := Nat.lt_of_lt_of_le hgn kw2.size
  have e0 := (kw2.cell (p := ⟨gn, o, none⟩) hgn).trans d0
  clear d0 d1 d2 d3
  go_wp2_with fail
  refine (CW2.out _).mono ?_
  rintro e w3 ⟨v3, rfl, hr3, k3⟩
  obtain ⟨a3, c3, rfl, sl3⟩ := hr3.sl (fun _ => rfl)
  have m5 := sl3.2.1
  have m6 := sl3.2.2.1
  unfold maxLen at m6
  rcases sl3.2.2.2 with e | ⟨g3', o3, rfl, hg3, r3⟩
  · cases e
  have q3 := r3 0 _ rfl 0 _ rfl
  simp only [Nat.add_zero, Nat.mul_one] at q3
  clear hr3 sl3 r3 CW2
  have e3 := (k3.cell (p := ⟨gn, o, none⟩) hgn2).trans e0
  have kww3 : Kp w w3 := kww2.trans k3
  have br3 := br.kp k3
  clear br br1 k3 e0
  go_wp2_with fail
  
  
  
  refine named_world (F := fun w4 => Blk w4 w3.heap.size [.int .i64 n0, .slice none 0 0] 46 ∧ Blk w4 (w3.heap.size + 1) [.int .i64 n0, .slice none 0 0] 46 ∧ Blk w4 (w3.heap.size + 2) [.slice (some ⟨w3.heap.size + 1, 0, none⟩) 1 1, .int .i64 0, .int .i64 0, .int .i64 0] 49 ∧ Kp w3 w4) ⟨(by (repeat (first | with_reducible assumption | ((with_reducible refine Blk.newL ?_ ?_); (focus (first | (simp; done) | omega)); rfl) | with_reducible refine Blk.drew ?_ | with_reducible refine Blk.drewN ?_ _ | with_reducible refine Blk.alloc ?_ _ | ((with_reducible refine Blk.other ?_ ?_ _); rotate_left; (focus (first | with_reducible assumption | omega | (simp; done) | (simp; omega))))))), (by (repeat (first | with_reducible assumption | ((with_reducible refine Blk.newL ?_ ?_); (focus (first | (simp; done) | omega)); rfl) | with_reducible refine Blk.drew ?_ | with_reducible refine Blk.drewN ?_ _ | with_reducible refine Blk.alloc ?_ _ | ((with_reducible refine Blk.other ?_ ?_ _); rotate_left; (focus (first | with_reducible assumption | omega | (simp; done) | (simp; omega))))))), (by (repeat (first | with_reducible assumption | ((with_reducible refine Blk.newL ?_ ?_); (focus (first | (simp; done) | omega)); rfl) | with_reducible refine Blk.drew ?_ | with_reducible refine Blk.drewN ?_ _ | with_reducible refine Blk.alloc ?_ _ | ((with_reducible refine Blk.other ?_ ?_ _); rotate_left; (focus (first | with_reducible assumption | omega | (simp; done) | (simp; omega))))))), (by (repeat (first | with_reducible assumption | with_reducible exact Kp.refl _ | with_reducible refine Kp.drew ?_ | with_reducible refine Kp.drewN ?_ _ | with_reducible refine Kp.alloc ?_ _ | ((with_reducible refine Kp.setCell ?_ ?_ _); rotate_left; (focus (first | omega | (simp; done) | (simp; omega)))) | with_reducible refine Kp.trans ?_ (by assumption))))⟩ ?_; rintro w4 ⟨bl, bq, bg, kw4⟩; have bl_0 := bl.cell 0 rfl; have bl_1 := bl.cell 1 rfl; have bl_ne := bl.lt; have bl_n1 := Nat.lt_add_one_of_lt bl_ne; have bl_n2 := Nat.lt_add_one_of_lt bl_n1; have bq_0 := bq.cell 0 rfl; have bq_1 := bq.cell 1 rfl; have bq_ne := bq.lt; have bq_n1 := Nat.lt_add_one_of_lt bq_ne; have bq_n2 := Nat.lt_add_one_of_lt bq_n1; have bg_0 := bg.cell 0 rfl; have bg_1 := bg.cell 1 rfl; have bg_2 := bg.cell 2 rfl; have bg_3 := bg.cell 3 rfl; have bg_ne := bg.lt; have bg_n1 := Nat.lt_add_one_of_lt bg_ne; have bg_n2 := Nat.lt_add_one_of_lt bg_n1
  have kww4 : Kp w w4 := kww3.trans kw4
  have br4 := br3.kp kw4
  have p0 := Row.cellN (enc := Page.cells) (fun _ => rfl) (HR.out.kp kww4) rfl (get_last hk) (j := 0) rfl
  simp only [Nat.add_zero] at p0
  have hgg4 := Nat.lt_of_lt_of_le hgg kww4.size
  have hX3 := kww3.size
  clear br3 kw4 kww3
  (refine wp_region_held_drew (S := (fun w' => w4.heap.size ≤ w'.heap.size ∧ w'.cell? ⟨w3.heap.size, 0, none⟩ = some (.int .i64 n0) ∧ w'.cell? ⟨w3.heap.size, 1, none⟩ = some (.slice none 0 0))) (by kernel_rfl) ?_ (fun hHd => ?_); (focus ((try dsimp only); exact ⟨Nat.le_refl _, bl_0, bl_1⟩)))
  (refine takeH (i := 0) (oi := ?o13) (v := ?v13) ?h13 (by kernel_rfl) ?q13 (Or.inl ⟨?w13, ?y13⟩) (by assumption) ?r13; (case h13 => ((simp only [g1, g3]); rfl)); (case q13 => exact fun _ _ _ h => h); (case w13 => rfl); (case y13 => (intro w' hSw; (try dsimp only at hSw); go_simp; (try with_reducible rfl))); (try simp only [Act.put, s1, s2, s3]))
  (refine takeH (i := 1) (oi := ?o14) (v := ?v14) ?h14 (by kernel_rfl) ?q14 (Or.inl ⟨?w14, ?y14⟩) (by assumption) ?r14; (case h14 => ((simp only [g1, g2, g3]); rfl)); (case q14 => exact fun _ _ _ h => h); (case w14 => rfl); (case y14 => (intro w' hSw; (try dsimp only at hSw); go_simp; (try with_reducible rfl))); (try simp only [Act.put, s1, s2, s3]))
  (refine takeH (i := 2) (oi := ?o15) (v := ?v15) ?h15 (by kernel_rfl) ?q15 (Or.inl ⟨?w15, ?y15⟩) (by assumption) ?r15; (case h15 => ((simp only [g1, g2, g3]); rfl)); (case q15 => exact fun _ _ _ h => h); (case w15 => rfl); (case y15 => (intro w' hSw; (try dsimp only at hSw); go_simp; (try with_reducible rfl))); (try simp only [Act.put, s1, s2, s3]))
  (refine takeH (i := 3) (oi := ?o16) (v := ?v16) ?h16 (by kernel_rfl) ?q16 (Or.inl ⟨?w16, ?y16⟩) (by assumption) ?r16; (case h16 => ((simp only [g1, g2, g3]); rfl)); (case q16 => exact fun _ _ _ h => h); (case w16 => rfl); (case y16 => (intro w' hSw; (try dsimp only at hSw); go_simp; (try with_reducible rfl))); (try simp only [Act.put, s1, s2, s3]))
  (refine takeH (i := 5) (oi := ?o17) (v := ?v17) ?h17 (by kernel_rfl) ?q17 (Or.inl ⟨?w17, ?y17⟩) (by assumption) ?r17; (case h17 => ((simp only [g1, g2, g3]); rfl)); (case q17 => exact fun _ _ _ h => h); (case w17 => rfl); (case y17 => (intro w' hSw; (try dsimp only at hSw); go_simp; (try with_reducible rfl))); (try simp only [Act.put, s1, s2, s3]))
  (refine wpAnyH_ready (rs := [4, 6]) (by kernel_rfl) (by simp) ?_; refine (AllReadyH.cons (o := ?o18) ?h18 (fun K hK => ?s18) (AllReadyH.cons (o := ?o19) ?h19 (fun K hK => ?s19) AllReadyH.nil)); (case h18 => (first | ((simp only [g1, g2, g3]); rfl) | rfl)); (case h19 => (first | ((simp only [g1, g2, g3]); rfl) | rfl)))
  (go_simp; (try dsimp only); refine hK.out _ _ ?_ (fun hHd => ?_); (focus ((try dsimp only); exact hHd)); clear hK K; (try simp only [Act.put, s1, s2, s3]))
  (refine wpAnyH_ready (rs := [6]) (by kernel_rfl) (by simp) ?_; refine AllReadyH.cons (o := ?o20) ?h20 (fun K hK => ?s20) AllReadyH.nil; (case h20 => (first | ((simp only [g1, g2, g3]); rfl) | rfl)); go_simp; (try dsimp only); refine hK.out _ _ ?_ (fun hHd => ?_); (focus ((try dsimp only); exact ⟨(show Kp w4 _ from (by (repeat (first | with_reducible assumption | with_reducible exact Kp.refl _ | with_reducible refine Kp.drew ?_ | with_reducible refine Kp.drewN ?_ _ | with_reducible refine Kp.alloc ?_ _ | ((with_reducible refine Kp.setCell ?_ ?_ _); rotate_left; (focus (first | omega | (simp; done) | (simp; omega)))) | with_reducible refine Kp.trans ?_ (by assumption))))).size, ((show Kp w4 _ from (by (repeat (first | with_reducible assumption | with_reducible exact Kp.refl _ | with_reducible refine Kp.drew ?_ | with_reducible refine Kp.drewN ?_ _ | with_reducible refine Kp.alloc ?_ _ | ((with_reducible refine Kp.setCell ?_ ?_ _); rotate_left; (focus (first | omega | (simp; done) | (simp; omega)))) | with_reducible refine Kp.trans ?_ (by assumption))))).cell (p := ⟨w3.heap.size, 0, none⟩) bl_ne).trans bl_0, ((show Kp w4 _ from (by (repeat (first | with_reducible assumption | with_reducible exact Kp.refl _ | with_reducible refine Kp.drew ?_ | with_reducible refine Kp.drewN ?_ _ | with_reducible refine Kp.alloc ?_ _ | ((with_reducible refine Kp.setCell ?_ ?_ _); rotate_left; (focus (first | omega | (simp; done) | (simp; omega)))) | with_reducible refine Kp.trans ?_ (by assumption))))).cell (p := ⟨w3.heap.size, 1, none⟩) bl_ne).trans bl_1⟩)); clear hK K; (try simp only [Act.put, s1, s2, s3]))
  (refine wpAnyH_ready (rs := [7]) (by kernel_rfl) (by simp) ?_; refine AllReadyH.cons (o := ?o21) ?h21 (fun K hK => ?s21) AllReadyH.nil; (case h21 => (first | ((simp only [g1, g2, g3]); rfl) | rfl)); (refine rowAppendX (.tmp 81) (.tmp 83) 47 ?ho22 Tryd.underlying47 infoLn rfl (by decide) (HL.out.kp (show Kp w _ from (by (repeat (first | with_reducible assumption | with_reducible exact Kp.refl _ | with_reducible refine Kp.drew ?_ | with_reducible refine Kp.drewN ?_ _ | with_reducible refine Kp.alloc ?_ _ | ((with_reducible refine Kp.setCell ?_ ?_ _); rotate_left; (focus (first | omega | (simp; done) | (simp; omega)))) | with_reducible refine Kp.trans ?_ (by assumption)))))) ?hs22 (y := (⟨n0, ⟨none, 0, 0, []⟩⟩ : Lane)) rfl (laneOne _) (show Blk _ w4.heap.size (Lane.cells ⟨n0, ⟨none, 0, 0, []⟩⟩) 46 from (by (repeat (first | with_reducible assumption | ((with_reducible refine Blk.newL ?_ ?_); (focus (first | (simp; done) | omega)); rfl) | with_reducible refine Blk.drew ?_ | with_reducible refine Blk.drewN ?_ _ | with_reducible refine Blk.alloc ?_ _ | ((with_reducible refine Blk.other ?_ ?_ _); rotate_left; (focus (first | with_reducible assumption | omega | (simp; done) | (simp; omega)))))))) ?hx22 ?hl22 ?hb22 ?hz22 ?_; (case ho22 => rfl); (case hs22 => rfl); (case hx22 => rfl); (case hl22 => unfold maxLen; omega); (case hb22 => omega); (case hz22 => exact Nat.le_trans hb (show Kp w _ from (by (repeat (first | with_reducible assumption | with_reducible exact Kp.refl _ | with_reducible refine Kp.drew ?_ | with_reducible refine Kp.drewN ?_ _ | with_reducible refine Kp.alloc ?_ _ | ((with_reducible refine Kp.setCell ?_ ?_ _); rotate_left; (focus (first | omega | (simp; done) | (simp; omega)))) | with_reducible refine Kp.trans ?_ (by assumption))))).size); intro v' w5 hr' hg hloc; obtain ⟨a5, c5, rfl, _⟩ := hr'.sl (fun _ => rfl); have hgs := hg.size; have hkB : ∀ b, w.heap.size ≤ b → b < w4.heap.size → w5.heap[b]? = w4.heap[b]? := fun b hb1 hb2 => (hg.block b (Nat.lt_of_lt_of_le hb2 (show Kp w4 _ from (by (repeat (first | with_reducible assumption | with_reducible exact Kp.refl _ | with_reducible refine Kp.drew ?_ | with_reducible refine Kp.drewN ?_ _ | with_reducible refine Kp.alloc ?_ _ | ((with_reducible refine Kp.setCell ?_ ?_ _); rotate_left; (focus (first | omega | (simp; done) | (simp; omega)))) | with_reducible refine Kp.trans ?_ (by assumption))))).size) (fun e' => by have := (HLG.out b e'.symm).1; omega)).trans (Below.block (show Kp w4 _ from (by (repeat (first | with_reducible assumption | with_reducible exact Kp.refl _ | with_reducible refine Kp.drew ?_ | with_reducible refine Kp.drewN ?_ _ | with_reducible refine Kp.alloc ?_ _ | ((with_reducible refine Kp.setCell ?_ ?_ _); rotate_left; (focus (first | omega | (simp; done) | (simp; omega)))) | with_reducible refine Kp.trans ?_ (by assumption))))) b hb2); have hpr := HR.out.stay (w' := w5) (fun b hb1 => by cases hb1; exact (hg.block g (Nat.lt_of_lt_of_le hgg (show Kp w _ from (by (repeat (first | with_reducible assumption | with_reducible exact Kp.refl _ | with_reducible refine Kp.drew ?_ | with_reducible refine Kp.drewN ?_ _ | with_reducible refine Kp.alloc ?_ _ | ((with_reducible refine Kp.setCell ?_ ?_ _); rotate_left; (focus (first | omega | (simp; done) | (simp; omega)))) | with_reducible refine Kp.trans ?_ (by assumption))))).size) (fun e' => (HLG.out g e'.symm).2 rfl)).trans (Below.block (show Kp w _ from (by (repeat (first | with_reducible assumption | with_reducible exact Kp.refl _ | with_reducible refine Kp.drew ?_ | with_reducible refine Kp.drewN ?_ _ | with_reducible refine Kp.alloc ?_ _ | ((with_reducible refine Kp.setCell ?_ ?_ _); rotate_left; (focus (first | omega | (simp; done) | (simp; omega)))) | with_reducible refine Kp.trans ?_ (by assumption))))) g hgg)); have p4 := Row.cellN (enc := Page.cells) (fun _ => rfl) hpr rfl (get_last hk) (j := 0) rfl; have f4 := Row.freeN hpr rfl (k * 4); simp only [Nat.add_zero] at p4; have htw := twain_store (show Kp w _ from (by (repeat (first | with_reducible assumption | with_reducible exact Kp.refl _ | with_reducible refine Kp.drew ?_ | with_reducible refine Kp.drewN ?_ _ | with_reducible refine Kp.alloc ?_ _ | ((with_reducible refine Kp.setCell ?_ ?_ _); rotate_left; (focus (first | omega | (simp; done) | (simp; omega)))) | with_reducible refine Kp.trans ?_ (by assumption))))) hg g (k * 4) (.slice a5 (ll ++ [(⟨n0, ⟨none, 0, 0, []⟩⟩ : Lane)]).length c5); have hlw : (Value.slice a5 (ll ++ [(⟨n0, ⟨none, 0, 0, []⟩⟩ : Lane)]).length c5).ownBlock = (Value.slice la ll.length lc).ownBlock ∨ ∃ b, (Value.slice a5 (ll ++ [(⟨n0, ⟨none, 0, 0, []⟩⟩ : Lane)]).length c5).ownBlock = some b ∧ w.heap.size ≤ b := hloc.imp id (fun h => ⟨_, h, (show Kp w _ from (by (repeat (first | with_reducible assumption | with_reducible exact Kp.refl _ | with_reducible refine Kp.drew ?_ | with_reducible refine Kp.drewN ?_ _ | with_reducible refine Kp.alloc ?_ _ | ((with_reducible refine Kp.setCell ?_ ?_ _); rotate_left; (focus (first | omega | (simp; done) | (simp; omega)))) | with_reducible refine Kp.trans ?_ (by assumption))))).size⟩); have hS4 : w4.heap.size ≤ w5.heap.size := Nat.le_trans (show Kp w4 _ from (by (repeat (first | with_reducible assumption | with_reducible exact Kp.refl _ | with_reducible refine Kp.drew ?_ | with_reducible refine Kp.drewN ?_ _ | with_reducible refine Kp.alloc ?_ _ | ((with_reducible refine Kp.setCell ?_ ?_ _); rotate_left; (focus (first | omega | (simp; done) | (simp; omega)))) | with_reducible refine Kp.trans ?_ (by assumption))))).size hgs; clear hgs); refine hK.out _ _ ?_ (fun hHd => ?_); (focus ((try dsimp only); exact ⟨hS4, (cell_heap (hkB _ hX3 bl_ne) _).trans bl_0, (cell_heap (hkB _ hX3 bl_ne) _).trans bl_1⟩)); clear hK K; (try simp only [Act.put]))
  (refine takeH (i := 8) (oi := ?o23) (v := ?v23) ?h23 (by kernel_rfl) ?q23 (Or.inl ⟨?w23, ?y23⟩) (by assumption) ?r23; (case h23 => ((simp only [g1, g2, g3]); rfl)); (case q23 => exact fun _ _ _ h => h); (case w23 => rfl); (case y23 => (intro w' hSw; (try dsimp only at hSw); go_simp; (try with_reducible rfl))); (try simp only [Act.put, s1, s2, s3]))
  (refine takeH (i := 9) (oi := ?o24) (v := ?v24) ?h24 (by kernel_rfl) ?q24 (Or.inl ⟨?w24, ?y24⟩) (by assumption) ?r24; (case h24 => ((simp only [g1, g2, g3]); rfl)); (case q24 => exact fun _ _ _ h => h); (case w24 => rfl); (case y24 => (intro w' hSw; (try dsimp only at hSw); go_simp; (try with_reducible rfl))); (try simp only [Act.put, s1, s2, s3]))
  (refine wpAnyH_ready (rs := [10]) (by kernel_rfl) (by simp) ?_; refine AllReadyH.cons (o := ?o25) ?h25 (fun K hK => ?s25) AllReadyH.nil; (case h25 => (first | ((simp only [g1, g2, g3]); rfl) | rfl)); go_simp; (try dsimp only); refine hK.out _ _ ?_ (fun hHd => ?_); (focus ((try dsimp only); exact ⟨by simpa using hS4, (cell_heap (Below.heap_setCell _ _ _ _ (by show w3.heap.size ≠ g; omega)) _).trans ((cell_heap (hkB _ hX3 bl_ne) _).trans bl_0), (cell_heap (Below.heap_setCell _ _ _ _ (by show w3.heap.size ≠ g; omega)) _).trans ((cell_heap (hkB _ hX3 bl_ne) _).trans bl_1)⟩)); clear hK K; (try simp only [Act.put, s1, s2, s3]))
  refine wpAnyH_done (by kernel_rfl) ?_ _
  rotate_left
  (go_simp; (try dsimp only); refine hK.out _ _ ?_ (fun hHd => ?_); (focus ((try dsimp only); exact ⟨(show Kp w4 _ from (by (repeat (first | with_reducible assumption | with_reducible exact Kp.refl _ | with_reducible refine Kp.drew ?_ | with_reducible refine Kp.drewN ?_ _ | with_reducible refine Kp.alloc ?_ _ | ((with_reducible refine Kp.setCell ?_ ?_ _); rotate_left; (focus (first | omega | (simp; done) | (simp; omega)))) | with_reducible refine Kp.trans ?_ (by assumption))))).size, ((show Kp w4 _ from (by (repeat (first | with_reducible assumption | with_reducible exact Kp.refl _ | with_reducible refine Kp.drew ?_ | with_reducible refine Kp.drewN ?_ _ | with_reducible refine Kp.alloc ?_ _ | ((with_reducible refine Kp.setCell ?_ ?_ _); rotate_left; (focus (first | omega | (simp; done) | (simp; omega)))) | with_reducible refine Kp.trans ?_ (by assumption))))).cell (p := ⟨w3.heap.size, 0, none⟩) bl_ne).trans bl_0, ((show Kp w4 _ from (by (repeat (first | with_reducible assumption | with_reducible exact Kp.refl _ | with_reducible refine Kp.drew ?_ | with_reducible refine Kp.drewN ?_ _ | with_reducible refine Kp.alloc ?_ _ | ((with_reducible refine Kp.setCell ?_ ?_ _); rotate_left; (focus (first | omega | (simp; done) | (simp; omega)))) | with_reducible refine Kp.trans ?_ (by assumption))))).cell (p := ⟨w3.heap.size, 1, none⟩) bl_ne).trans bl_1⟩)); clear hK K; (try simp only [Act.put, s1, s2, s3]))
  (refine wpAnyH_ready (rs := [4]) (by kernel_rfl) (by simp) ?_; refine AllReadyH.cons (o := ?o26) ?h26 (fun K hK => ?s26) AllReadyH.nil; (case h26 => (first | ((simp only [g1, g2, g3]); rfl) | rfl)); go_simp; (try dsimp only); refine hK.out _ _ ?_ (fun hHd => ?_); (focus ((try dsimp only); exact hHd)); clear hK K; (try simp only [Act.put, s1, s2, s3]))
  (refine wpAnyH_ready (rs := [7]) (by kernel_rfl) (by simp) ?_; refine AllReadyH.cons (o := ?o27) ?h27 (fun K hK => ?s27) AllReadyH.nil; (case h27 => (first | ((simp only [g1, g2, g3]); rfl) | rfl)); (refine rowAppendX (.tmp 81) (.tmp 83) 47 ?ho28 Tryd.underlying47 infoLn rfl (by decide) (HL.out.kp (show Kp w _ from (by (repeat (first | with_reducible assumption | with_reducible exact Kp.refl _ | with_reducible refine Kp.drew ?_ | with_reducible refine Kp.drewN ?_ _ | with_reducible refine Kp.alloc ?_ _ | ((with_reducible refine Kp.setCell ?_ ?_ _); rotate_left; (focus (first | omega | (simp; done) | (simp; omega)))) | with_reducible refine Kp.trans ?_ (by assumption)))))) ?hs28 (y := (⟨n0, ⟨none, 0, 0, []⟩⟩ : Lane)) rfl (laneOne _) (show Blk _ w4.heap.size (Lane.cells ⟨n0, ⟨none, 0, 0, []⟩⟩) 46 from (by (repeat (first | with_reducible assumption | ((with_reducible refine Blk.newL ?_ ?_); (focus (first | (simp; done) | omega)); rfl) | with_reducible refine Blk.drew ?_ | with_reducible refine Blk.drewN ?_ _ | with_reducible refine Blk.alloc ?_ _ | ((with_reducible refine Blk.other ?_ ?_ _); rotate_left; (focus (first | with_reducible assumption | omega | (simp; done) | (simp; omega)))))))) ?hx28 ?hl28 ?hb28 ?hz28 ?_; (case ho28 => rfl); (case hs28 => rfl); (case hx28 => rfl); (case hl28 => unfold maxLen; omega); (case hb28 => omega); (case hz28 => exact Nat.le_trans hb (show Kp w _ from (by (repeat (first | with_reducible assumption | with_reducible exact Kp.refl _ | with_reducible refine Kp.drew ?_ | with_reducible refine Kp.drewN ?_ _ | with_reducible refine Kp.alloc ?_ _ | ((with_reducible refine Kp.setCell ?_ ?_ _); rotate_left; (focus (first | omega | (simp; done) | (simp; omega)))) | with_reducible refine Kp.trans ?_ (by assumption))))).size); intro v' w5 hr' hg hloc; obtain ⟨a5, c5, rfl, _⟩ := hr'.sl (fun _ => rfl); have hgs := hg.size; have hkB : ∀ b, w.heap.size ≤ b → b < w4.heap.size → w5.heap[b]? = w4.heap[b]? := fun b hb1 hb2 => (hg.block b (Nat.lt_of_lt_of_le hb2 (show Kp w4 _ from (by (repeat (first | with_reducible assumption | with_reducible exact Kp.refl _ | with_reducible refine Kp.drew ?_ | with_reducible refine Kp.drewN ?_ _ | with_reducible refine Kp.alloc ?_ _ | ((with_reducible refine Kp.setCell ?_ ?_ _); rotate_left; (focus (first | omega | (simp; done) | (simp; omega)))) | with_reducible refine Kp.trans ?_ (by assumption))))).size) (fun e' => by have := (HLG.out b e'.symm).1; omega)).trans (Below.block (show Kp w4 _ from (by (repeat (first | with_reducible assumption | with_reducible exact Kp.refl _ | with_reducible refine Kp.drew ?_ | with_reducible refine Kp.drewN ?_ _ | with_reducible refine Kp.alloc ?_ _ | ((with_reducible refine Kp.setCell ?_ ?_ _); rotate_left; (focus (first | omega | (simp; done) | (simp; omega)))) | with_reducible refine Kp.trans ?_ (by assumption))))) b hb2); have hpr := HR.out.stay (w' := w5) (fun b hb1 => by cases hb1; exact (hg.block g (Nat.lt_of_lt_of_le hgg (show Kp w _ from (by (repeat (first | with_reducible assumption | with_reducible exact Kp.refl _ | with_reducible refine Kp.drew ?_ | with_reducible refine Kp.drewN ?_ _ | with_reducible refine Kp.alloc ?_ _ | ((with_reducible refine Kp.setCell ?_ ?_ _); rotate_left; (focus (first | omega | (simp; done) | (simp; omega)))) | with_reducible refine Kp.trans ?_ (by assumption))))).size) (fun e' => (HLG.out g e'.symm).2 rfl)).trans (Below.block (show Kp w _ from (by (repeat (first | with_reducible assumption | with_reducible exact Kp.refl _ | with_reducible refine Kp.drew ?_ | with_reducible refine Kp.drewN ?_ _ | with_reducible refine Kp.alloc ?_ _ | ((with_reducible refine Kp.setCell ?_ ?_ _); rotate_left; (focus (first | omega | (simp; done) | (simp; omega)))) | with_reducible refine Kp.trans ?_ (by assumption))))) g hgg)); have p4 := Row.cellN (enc := Page.cells) (fun _ => rfl) hpr rfl (get_last hk) (j := 0) rfl; have f4 := Row.freeN hpr rfl (k * 4); simp only [Nat.add_zero] at p4; have htw := twain_store (show Kp w _ from (by (repeat (first | with_reducible assumption | with_reducible exact Kp.refl _ | with_reducible refine Kp.drew ?_ | with_reducible refine Kp.drewN ?_ _ | with_reducible refine Kp.alloc ?_ _ | ((with_reducible refine Kp.setCell ?_ ?_ _); rotate_left; (focus (first | omega | (simp; done) | (simp; omega)))) | with_reducible refine Kp.trans ?_ (by assumption))))) hg g (k * 4) (.slice a5 (ll ++ [(⟨n0, ⟨none, 0, 0, []⟩⟩ : Lane)]).length c5); have hlw : (Value.slice a5 (ll ++ [(⟨n0, ⟨none, 0, 0, []⟩⟩ : Lane)]).length c5).ownBlock = (Value.slice la ll.length lc).ownBlock ∨ ∃ b, (Value.slice a5 (ll ++ [(⟨n0, ⟨none, 0, 0, []⟩⟩ : Lane)]).length c5).ownBlock = some b ∧ w.heap.size ≤ b := hloc.imp id (fun h => ⟨_, h, (show Kp w _ from (by (repeat (first | with_reducible assumption | with_reducible exact Kp.refl _ | with_reducible refine Kp.drew ?_ | with_reducible refine Kp.drewN ?_ _ | with_reducible refine Kp.alloc ?_ _ | ((with_reducible refine Kp.setCell ?_ ?_ _); rotate_left; (focus (first | omega | (simp; done) | (simp; omega)))) | with_reducible refine Kp.trans ?_ (by assumption))))).size⟩); have hS4 : w4.heap.size ≤ w5.heap.size := Nat.le_trans (show Kp w4 _ from (by (repeat (first | with_reducible assumption | with_reducible exact Kp.refl _ | with_reducible refine Kp.drew ?_ | with_reducible refine Kp.drewN ?_ _ | with_reducible refine Kp.alloc ?_ _ | ((with_reducible refine Kp.setCell ?_ ?_ _); rotate_left; (focus (first | omega | (simp; done) | (simp; omega)))) | with_reducible refine Kp.trans ?_ (by assumption))))).size hgs; clear hgs); refine hK.out _ _ ?_ (fun hHd => ?_); (focus ((try dsimp only); exact ⟨hS4, (cell_heap (hkB _ hX3 bl_ne) _).trans bl_0, (cell_heap (hkB _ hX3 bl_ne) _).trans bl_1⟩)); clear hK K; (try simp only [Act.put]))
  (refine takeH (i := 8) (oi := ?o29) (v := ?v29) ?h29 (by kernel_rfl) ?q29 (Or.inl ⟨?w29, ?y29⟩) (by assumption) ?r29; (case h29 => ((simp only [g1, g2, g3]); rfl)); (case q29 => exact fun _ _ _ h => h); (case w29 => rfl); (case y29 => (intro w' hSw; (try dsimp only at hSw); go_simp; (try with_reducible rfl))); (try simp only [Act.put, s1, s2, s3]))
  (refine takeH (i := 9) (oi := ?o30) (v := ?v30) ?h30 (by kernel_rfl) ?q30 (Or.inl ⟨?w30, ?y30⟩) (by assumption) ?r30; (case h30 => ((simp only [g1, g2, g3]); rfl)); (case q30 => exact fun _ _ _ h => h); (case w30 => rfl); (case y30 => (intro w' hSw; (try dsimp only at hSw); go_simp; (try with_reducible rfl))); (try simp only [Act.put, s1, s2, s3]))
  (refine wpAnyH_ready (rs := [10]) (by kernel_rfl) (by simp) ?_; refine AllReadyH.cons (o := ?o31) ?h31 (fun K hK => ?s31) AllReadyH.nil; (case h31 => (first | ((simp only [g1, g2, g3]); rfl) | rfl)); go_simp; (try dsimp only); refine hK.out _ _ ?_ (fun hHd => ?_); (focus ((try dsimp only); exact ⟨by simpa using hS4, (cell_heap (Below.heap_setCell _ _ _ _ (by show w3.heap.size ≠ g; omega)) _).trans ((cell_heap (hkB _ hX3 bl_ne) _).trans bl_0), (cell_heap (Below.heap_setCell _ _ _ _ (by show w3.heap.size ≠ g; omega)) _).trans ((cell_heap (hkB _ hX3 bl_ne) _).trans bl_1)⟩)); clear hK K; (try simp only [Act.put, s1, s2, s3]))
  refine wpAnyH_done (by kernel_rfl) ?_ _
  rotate_left
  · have hps4 := Row.setN (enc := Page.cells) (fun _ => rfl) hpr rfl (get_last hk) (j := 0) (y := (⟨⟨a5, ll.length + 1, c5, ll ++ [⟨n0, ⟨none, 0, 0, []⟩⟩]⟩, pt, pf, pl⟩ : Page)) (u := .slice a5 (ll ++ [(⟨n0, ⟨none, 0, 0, []⟩⟩ : Lane)]).length c5) (by decide) (by simp [Page.cells])
    rw [set_last hk] at hps4
    have hls4 := hr'.stay (w' := w5.setCell ⟨g, k * 4, none⟩ (.slice a5 (ll ++ [(⟨n0, ⟨none, 0, 0, []⟩⟩ : Lane)]).length c5)) (fun b hb1 => Below.heap_setCell _ _ _ _ (fun e => by
      rcases hlw with h | ⟨b2, h, h2⟩
      · rw [hb1] at h
        exact (HLG.out b h.symm).2 e
      · rw [hb1] at h
        cases h
        have : b = g := e
        omega))
    simp only [List.length_append, List.length_singleton, Nat.add_zero] at hps4 hls4 htw hlw ⊢
    clear hHd
    have kb : ∀ b, w.heap.size ≤ b → b < w4.heap.size → (w5.setCell ⟨g, k * 4, none⟩ (.slice a5 (ll.length + 1) c5)).heap[b]? = w4.heap[b]? := fun b hb1 hb2 => (Below.heap_setCell _ _ _ _ (by show b ≠ g; omega)).trans (hkB b hb1 hb2)
    have bg6 : Blk (w5.setCell ⟨g, k * 4, none⟩ (.slice a5 (ll.length + 1) c5)) (w3.heap.size + 2) [.slice (some ⟨w3.heap.size + 1, 0, none⟩) 1 1, .int .i64 0, .int .i64 0, .int .i64 0] 49 := ⟨(kb _ (by omega) bg_ne).trans bg.heap⟩
    have bq6 : Blk (w5.setCell ⟨g, k * 4, none⟩ (.slice a5 (ll.length + 1) c5)) (w3.heap.size + 1) [.int .i64 n0, .slice none 0 0] 46 := ⟨(kb _ (by omega) bq_ne).trans bq.heap⟩
    have br6 : Blk (w5.setCell ⟨g, k * 4, none⟩ (.slice a5 (ll.length + 1) c5)) w.heap.size [.slice none 0 0, .int .i64 0, .bool false] 27 := ⟨(kb _ (Nat.le_refl _) br4.lt).trans br4.heap⟩
    clear kb hkB bg bq bl br4 p4 f4 hpr hr' hg hloc
    generalize w5.setCell ⟨g, k * 4, none⟩ (.slice a5 (ll.length + 1) c5) = w6 at hps4 hls4 htw bg6 bq6 br6 ⊢
    have z0 := bg6.cell 0 rfl
    have z1 := bg6.cell 1 rfl
    have z2 := bg6.cell 2 rfl
    have z3 := bg6.cell 3 rfl
    have bg6l := bg6.lt
    have br6l := br6.lt
    have BA := @ba_append
    obtain ⟨T1, hT1⟩ : ∃ T1, cPage ++ (L1 ++ [10]) = T1 := ⟨_, rfl⟩
    have t0 : (T1 == cPage ++ (line ++ [10])) = B := by rw [← hT1, ← HBe.out]; exact eq_tail _ _ _
    have t1 := t0
    unfold cPage at t1
    simp only [List.cons_append, List.nil_append] at t1
    have CPg : Hid (∀ c w', Blk w' c [.slice (some ⟨w3.heap.size + 1, 0, none⟩) 1 1, .int .i64 0, .int .i64 0, .int .i64 0] 49 → Blk w' (w3.heap.size + 1) [.int .i64 n0, .slice none 0 0] 46 → Calls Tryd.prog 15 #[.slice (some ⟨c, 0, none⟩) 1 1] w' fun e w'' => e = .returned (sv T1) ∧ Kp w' w'') := Lib.hid fun c w' h1 h2 => by
      have := pages_lane n0 HI.out _ c w' h1 h2
      rw [HL1.out, hT1] at this
      exact this
    clear hT1
    go_wp2_with fail
    refine (CPg.out w6.heap.size _ (by (repeat (first | with_reducible assumption | ((with_reducible refine Blk.newL ?_ ?_); (focus (first | (simp; done) | omega)); rfl) | with_reducible refine Blk.drew ?_ | with_reducible refine Blk.drewN ?_ _ | with_reducible refine Blk.alloc ?_ _ | ((with_reducible refine Blk.other ?_ ?_ _); rotate_left; (focus (first | with_reducible assumption | omega | (simp; done) | (simp; omega))))))) (by (repeat (first | with_reducible assumption | ((with_reducible refine Blk.newL ?_ ?_); (focus (first | (simp; done) | omega)); rfl) | with_reducible refine Blk.drew ?_ | with_reducible refine Blk.drewN ?_ _ | with_reducible refine Blk.alloc ?_ _ | ((with_reducible refine Blk.other ?_ ?_ _); rotate_left; (focus (first | with_reducible assumption | omega | (simp; done) | (simp; omega)))))))).mono ?_
    rintro e w7 ⟨rfl, k7⟩
    have kw7 : Kp w6 w7 := ((by (repeat (first | with_reducible assumption | with_reducible exact Kp.refl _ | with_reducible refine Kp.drew ?_ | with_reducible refine Kp.drewN ?_ _ | with_reducible refine Kp.alloc ?_ _ | ((with_reducible refine Kp.setCell ?_ ?_ _); rotate_left; (focus (first | omega | (simp; done) | (simp; omega)))) | with_reducible refine Kp.trans ?_ (by assumption)))) : Kp w6 _).trans k7
    have br7 := br6.kp kw7
    have br7l := br7.lt
    have y0 := br7.cell 0 rfl
    have y1 := br7.cell 1 rfl
    have y2 := br7.cell 2 rfl
    have f0 := br7.free 0
    have f1 := br7.free 1
    have f2 := br7.free 2
    have hc1 : ¬ 9223372036854775807 < 13 + line.length := by omega
    have hc2 : ¬ 9223372036854775807 < 13 + line.length + 1 := by omega
    have hc3 : ¬ 9223372036854775807 < 13 + (line.length + 1) := by omega
    go_wp2_with fail
    have zz := (((br7.set 0 (.slice (some ⟨g, 0, none⟩) (k + 1) vc)).set 1 (.int .i64 0)).set 2 (.bool B))
    have x0 := zz.cell 0 rfl
    have x1 := zz.cell 1 rfl
    have x2 := zz.cell 2 rfl
    clear y0 y1 y2
    refine bodyPost_ret (v := .agg #[.slice (some ⟨g, 0, none⟩) (k + 1) vc, .int .i64 0, .bool B]) (by simp [results, Tryd.results22, go_sem, x0, x1, x2]) rfl ?_
    exact ⟨_, _, rfl, row_away (row_away (row_away (hps4.kp kw7) br7 (by decide) 0 _) (br7.set 0 _) (by decide) 1 _) ((br7.set 0 _).set 1 _) (by decide) 2 _, row_away (row_away (row_away (hls4.kp kw7) br7 (by decide) 0 _) (br7.set 0 _) (by decide) 1 _) ((br7.set 0 _).set 1 _) (by decide) 2 _,
      (((htw.kp kw7).set (Nat.le_refl _) 0 _).set (Nat.le_refl _) 1 _).set (Nat.le_refl _) 2 _, hlw⟩
  · have hps4 := Row.setN (enc := Page.cells) (fun _ => rfl) hpr rfl (get_last hk) (j := 0) (y := (⟨⟨a5, ll.length + 1, c5, ll ++ [⟨n0, ⟨none, 0, 0, []⟩⟩]⟩, pt, pf, pl⟩ : Page)) (u := .slice a5 (ll ++ [(⟨n0, ⟨none, 0, 0, []⟩⟩ : Lane)]).length c5) (by decide) (by simp [Page.cells])
    rw [set_last hk] at hps4
    have hls4 := hr'.stay (w' := w5.setCell ⟨g, k * 4, none⟩ (.slice a5 (ll ++ [(⟨n0, ⟨none, 0, 0, []⟩⟩ : Lane)]).length c5)) (fun b hb1 => Below.heap_setCell _ _ _ _ (fun e => by
      rcases hlw with h | ⟨b2, h, h2⟩
      · rw [hb1] at h
        exact (HLG.out b h.symm).2 e
      · rw [hb1] at h
        cases h
        have : b = g := e
        omega))
    simp only [List.length_append, List.length_singleton, Nat.add_zero] at hps4 hls4 htw hlw ⊢
    clear hHd
    have kb : ∀ b, w.heap.size ≤ b → b < w4.heap.size → (w5.setCell ⟨g, k * 4, none⟩ (.slice a5 (ll.length + 1) c5)).heap[b]? = w4.heap[b]? := fun b hb1 hb2 => (Below.heap_setCell _ _ _ _ (by show b ≠ g; omega)).trans (hkB b hb1 hb2)
    have bg6 : Blk (w5.setCell ⟨g, k * 4, none⟩ (.slice a5 (ll.length + 1) c5)) (w3.heap.size + 2) [.slice (some ⟨w3.heap.size + 1, 0, none⟩) 1 1, .int .i64 0, .int .i64 0, .int .i64 0] 49 := ⟨(kb _ (by omega) bg_ne).trans bg.heap⟩
    have bq6 : Blk (w5.setCell ⟨g, k * 4, none⟩ (.slice a5 (ll.length + 1) c5)) (w3.heap.size + 1) [.int .i64 n0, .slice none 0 0] 46 := ⟨(kb _ (by omega) bq_ne).trans bq.heap⟩
    have br6 : Blk (w5.setCell ⟨g, k * 4, none⟩ (.slice a5 (ll.length + 1) c5)) w.heap.size [.slice none 0 0, .int .i64 0, .bool false] 27 := ⟨(kb _ (Nat.le_refl _) br4.lt).trans br4.heap⟩
    clear kb hkB bg bq bl br4 p4 f4 hpr hr' hg hloc
    generalize w5.setCell ⟨g, k * 4, none⟩ (.slice a5 (ll.length + 1) c5) = w6 at hps4 hls4 htw bg6 bq6 br6 ⊢
    have z0 := bg6.cell 0 rfl
    have z1 := bg6.cell 1 rfl
    have z2 := bg6.cell 2 rfl
    have z3 := bg6.cell 3 rfl
    have bg6l := bg6.lt
    have br6l := br6.lt
    have BA := @ba_append
    obtain ⟨T1, hT1⟩ : ∃ T1, cPage ++ (L1 ++ [10]) = T1 := ⟨_, rfl⟩
    have t0 : (T1 == cPage ++ (line ++ [10])) = B := by rw [← hT1, ← HBe.out]; exact eq_tail _ _ _
    have t1 := t0
    unfold cPage at t1
    simp only [List.cons_append, List.nil_append] at t1
    have CPg : Hid (∀ c w', Blk w' c [.slice (some ⟨w3.heap.size + 1, 0, none⟩) 1 1, .int .i64 0, .int .i64 0, .int .i64 0] 49 → Blk w' (w3.heap.size + 1) [.int .i64 n0, .slice none 0 0] 46 → Calls Tryd.prog 15 #[.slice (some ⟨c, 0, none⟩) 1 1] w' fun e w'' => e = .returned (sv T1) ∧ Kp w' w'') := Lib.hid fun c w' h1 h2 => by
      have := pages_lane n0 HI.out _ c w' h1 h2
      rw [HL1.out, hT1] at this
      exact this
    clear hT1
    go_wp2_with fail
    refine (CPg.out w6.heap.size _ (by (repeat (first | with_reducible assumption | ((with_reducible refine Blk.newL ?_ ?_); (focus (first | (simp; done) | omega)); rfl) | with_reducible refine Blk.drew ?_ | with_reducible refine Blk.drewN ?_ _ | with_reducible refine Blk.alloc ?_ _ | ((with_reducible refine Blk.other ?_ ?_ _); rotate_left; (focus (first | with_reducible assumption | omega | (simp; done) | (simp; omega))))))) (by (repeat (first | with_reducible assumption | ((with_reducible refine Blk.newL ?_ ?_); (focus (first | (simp; done) | omega)); rfl) | with_reducible refine Blk.drew ?_ | with_reducible refine Blk.drewN ?_ _ | with_reducible refine Blk.alloc ?_ _ | ((with_reducible refine Blk.other ?_ ?_ _); rotate_left; (focus (first | with_reducible assumption | omega | (simp; done) | (simp; omega)))))))).mono ?_
    rintro e w7 ⟨rfl, k7⟩
    have kw7 : Kp w6 w7 := ((by (repeat (first | with_reducible assumption | with_reducible exact Kp.refl _ | with_reducible refine Kp.drew ?_ | with_reducible refine Kp.drewN ?_ _ | with_reducible refine Kp.alloc ?_ _ | ((with_reducible refine Kp.setCell ?_ ?_ _); rotate_left; (focus (first | omega | (simp; done) | (simp; omega)))) | with_reducible refine Kp.trans ?_ (by assumption)))) : Kp w6 _).trans k7
    have br7 := br6.kp kw7
    have br7l := br7.lt
    have y0 := br7.cell 0 rfl
    have y1 := br7.cell 1 rfl
    have y2 := br7.cell 2 rfl
    have f0 := br7.free 0
    have f1 := br7.free 1
    have f2 := br7.free 2
    have hc1 : ¬ 9223372036854775807 < 13 + line.length := by omega
    have hc2 : ¬ 9223372036854775807 < 13 + line.length + 1 := by omega
    have hc3 : ¬ 9223372036854775807 < 13 + (line.length + 1) := by omega
    go_wp2_with fail
    have zz := (((br7.set 0 (.slice (some ⟨g, 0, none⟩) (k + 1) vc)).set 1 (.int .i64 0)).set 2 (.bool B))
    have x0 := zz.cell 0 rfl
    have x1 := zz.cell 1 rfl
    have x2 := zz.cell 2 rfl
    clear y0 y1 y2
    refine bodyPost_ret (v := .agg #[.slice (some ⟨g, 0, none⟩) (k + 1) vc, .int .i64 0, .bool B]) (by simp [results, Tryd.results22, go_sem, x0, x1, x2]) rfl ?_
    exact ⟨_, _, rfl, row_away (row_away (row_away (hps4.kp kw7) br7 (by decide) 0 _) (br7.set 0 _) (by decide) 1 _) ((br7.set 0 _).set 1 _) (by decide) 2 _, row_away (row_away (row_away (hls4.kp kw7) br7 (by decide) 0 _) (br7.set 0 _) (by decide) 1 _) ((br7.set 0 _).set 1 _) (by decide) 2 _,
      (((htw.kp kw7).set (Nat.le_refl _) 0 _).set (Nat.le_refl _) 1 _).set (Nat.le_refl _) 2 _, hlw⟩
end Go.Proofs.YteadhacoglcbfaaDoor
