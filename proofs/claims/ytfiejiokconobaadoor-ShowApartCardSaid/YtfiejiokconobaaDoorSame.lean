/- Whether pages are the same: the document's. -/
import Derived.Test.YtfiejiokconobaaDoorAll

import Derived.Test.YtfiejiokconobaaDoorHeld

import Derived.Laws.StructEq

namespace Go.Proofs.YtfiejiokconobaaDoor

open Go.RowKit

def eqPut (p q : Put) : Bool := p.k == q.k && (p.n == q.n && (p.l == q.l && (p.y == q.y && p.h == q.h)))
theorem eqPut_iff {p q : Put} : eqPut p q = true ↔ p = q := by
  obtain ⟨p0, p1, p2, p3, p4⟩ := p
  obtain ⟨q0, q1, q2, q3, q4⟩ := q
  simp [eqPut]
def eqL {α : Type} (f : α → α → Bool) : List α → List α → Bool
  | [], [] => true
  | x :: a, y :: b => f x y && eqL f a b
  | _, _ => false
theorem eqL_len {α : Type} {f : α → α → Bool} : ∀ {a b : List α}, eqL f a b = true → a.length = b.length
  | [], [], _ => rfl
  | x :: a, y :: b, h => by
    unfold eqL at h
    rw [Bool.and_eq_true] at h
    rw [List.length_cons, List.length_cons, eqL_len h.2]
  | [], _ :: _, h => by unfold eqL at h; cases h
  | _ :: _, [], h => by unfold eqL at h; cases h
theorem eqL_no {α : Type} {f : α → α → Bool} : ∀ {a b : List α} {k : Nat} {x y : α}, a[k]? = some x → b[k]? = some y → f x y = false → eqL f a b = false
  | [], _, k, x, y, h, _, _ => by simp at h
  | _ :: _, [], k, x, y, _, h, _ => by simp at h
  | x' :: a, y' :: b, 0, x, y, h1, h2, h3 => by
    simp only [List.getElem?_cons_zero, Option.some.injEq] at h1 h2
    subst h1; subst h2
    unfold eqL; rw [h3]; rfl
  | x' :: a, y' :: b, k + 1, x, y, h1, h2, h3 => by
    rw [List.getElem?_cons_succ] at h1 h2
    unfold eqL
    rw [eqL_no h1 h2 h3, Bool.and_false]
theorem eqL_yes {α : Type} {f : α → α → Bool} : ∀ {a b : List α}, a.length = b.length → (∀ (k : Nat) (x y : α), a[k]? = some x → b[k]? = some y → f x y = true) → eqL f a b = true
  | [], [], _, _ => rfl
  | x :: a, y :: b, h, hk => by
    unfold eqL
    rw [hk 0 x y rfl rfl, Bool.true_and]
    exact eqL_yes (by simpa using h) fun k x y h1 h2 => hk (k + 1) x y (by simpa using h1) (by simpa using h2)
  | [], _ :: _, h, _ => by simp at h
  | _ :: _, [], h, _ => by simp at h
theorem eqL_neLen {α : Type} {f : α → α → Bool} {a b : List α} (h : a.length ≠ b.length) : eqL f a b = false := by
  rcases hb : eqL f a b with _ | _
  · rfl
  · exact absurd (eqL_len hb) h
def eqLane (x y : Lane) : Bool := x.x == y.x && eqL eqPut x.s.l y.s.l
def eqPage (p q : Page) : Bool := p.t == q.t && (p.f == q.f && (p.l == q.l && eqL eqLane p.s.l q.s.l))
set_option maxHeartbeats 1000000 in
theorem eqPutRun (d : Nat) (w : World) (a0 a1 a2 a3 a4 b0 b1 b2 b3 b4 : Int) :
    (Op.equalIn (d + 3) 30 (.agg #[.int .i64 a0, .int .i64 a1, .int .i64 a2, .int .i64 a3, .int .i64 a4]) (.agg #[.int .i64 b0, .int .i64 b1, .int .i64 b2, .int .i64 b3, .int .i64 b4])).run Tryd.prog w = .ok (a0 == b0 && (a1 == b1 && (a2 == b2 && (a3 == b3 && a4 == b4)))) w := by
  have hu := Tryd.underlying30
  go_simp
  clear hu
  by_cases h0 : a0 = b0 <;> by_cases h1 : a1 = b1 <;> by_cases h2 : a2 = b2 <;> by_cases h3 : a3 = b3 <;> by_cases h4 : a4 = b4 <;> simp_all
set_option maxRecDepth 100000 in
set_option maxHeartbeats 2000000 in
theorem same37_any (a1 a2 : Option Addr) (c1 c2 : Nat) (l1 l2 : List Put) (w : World) (h1 : SlOk w 5 Put.cells a1 l1.length c1 l1) (h2 : SlOk w 5 Put.cells a2 l2.length c2 l2) :
    Calls Tryd.prog 34 #[.slice a1 l1.length c1, .slice a2 l2.length c2] w fun e w' => e = .returned (.bool (eqL eqPut l1 l2)) ∧ Kp w w' := by
  have hc1 := h1.2.1
  have hm1 := h1.2.2.1
  have hc2 := h2.2.1
  have hm2 := h2.2.2.1
  unfold maxLen at hm1 hm2
  have H1 := Lib.hid h1
  have H2 := Lib.hid h2
  have eP := @eqPutRun
  clear h1 h2
  go_enter Tryd.func34, Tryd.ntmps34
  by_cases hln : l1.length = l2.length
  · have hLN := Lib.hid hln
    rw [← hln] at hc2 ⊢
    go_wp2_with fail
    clear hln
    go_loopw [5] (fun v5 wr => ∃ k : Nat, k ≤ l1.length ∧ v5 = .int .i64 k ∧ (∀ j x y, j < k → l1[j]? = some x → l2[j]? = some y → eqPut x y = true) ∧ Kp w wr) (fun v5 _ => l1.length - (intOf v5).toNat)
    case atStart => exact ⟨0, Nat.zero_le _, rfl, fun j x y hj => by omega, (by (repeat (first | with_reducible assumption | with_reducible exact Kp.refl _ | with_reducible refine Kp.drew ?_ | with_reducible refine Kp.drewN ?_ _ | with_reducible refine Kp.alloc ?_ _ | ((with_reducible refine Kp.setCell ?_ ?_ _); rotate_left; (focus (first | omega | (simp; done) | (simp; omega)))) | with_reducible refine Kp.trans ?_ (by assumption))))⟩
    case round =>
      obtain ⟨k, hk, rfl, hall, xk⟩ := hrel
      have HALL := Lib.hid hall
      clear hall
      by_cases hlt : k < l1.length
      · have hlt2 : k < l2.length := by rw [← hLN.out]; exact hlt
        obtain ⟨x, hx⟩ : ∃ x, l1[k]? = some x := ⟨l1[k], List.getElem?_eq_getElem hlt⟩
        obtain ⟨y, hy⟩ : ∃ x, l2[k]? = some x := ⟨l2[k], List.getElem?_eq_getElem hlt2⟩
        have t1 := H1.out.kp xk
        have t2 := H2.out.kp xk
        rcases t1.2.2.2 with e | ⟨ga, oa, rfl, hga, r1⟩
        · rw [e] at hlt; simp at hlt
        rcases t2.2.2.2 with e | ⟨gb, ob, rfl, hgb, r2⟩
        · rw [e] at hlt2; simp at hlt2
        have NO : Hid (eqPut x y = false → eqL eqPut l1 l2 = false) := Lib.hid (fun h => eqL_no hx hy h)
        have YES : Hid (eqPut x y = true → ∀ j x y, j < k + 1 → l1[j]? = some x → l2[j]? = some y → eqPut x y = true) := Lib.hid (fun h j x' y' hj h1 h2 => by
          rcases Nat.lt_or_ge j k with c | c
          · exact HALL.out j x' y' c h1 h2
          · obtain rfl : j = k := by omega
            rw [hx] at h1; rw [hy] at h2
            cases h1; cases h2; exact h)
        have hdef : eqPut x y = (x.k == y.k && (x.n == y.n && (x.l == y.l && (x.y == y.y && x.h == y.h)))) := rfl
        obtain ⟨x0, x1, x2, x3, x4⟩ := x
        obtain ⟨y0, y1, y2, y3, y4⟩ := y
        have d0 := r1 k _ hx 0 _ rfl; have d1 := r1 k _ hx 1 _ rfl; have d2 := r1 k _ hx 2 _ rfl; have d3 := r1 k _ hx 3 _ rfl; have d4 := r1 k _ hx 4 _ rfl
        have f0 := r2 k _ hy 0 _ rfl; have f1 := r2 k _ hy 1 _ rfl; have f2 := r2 k _ hy 2 _ rfl; have f3 := r2 k _ hy 3 _ rfl; have f4 := r2 k _ hy 4 _ rfl
        simp only [Nat.add_zero] at d0 d1 d2 d3 d4 f0 f1 f2 f3 f4 hdef
        have j1 : decide ((k : Int) < (l1.length : Int)) = true := decide_eq_true (by omega)
        have hc2' : k < c2 := by omega
        clear r1 r2 t1 t2 hx hy
        rcases he : eqPut ⟨x0, x1, x2, x3, x4⟩ ⟨y0, y1, y2, y3, y4⟩ with _ | _
        · have hno := NO.out he
          rw [hdef] at he
          have HNO := Lib.hid hno
          clear hdef hno
          go_wp2_with fail
          (refine wp_region_held_drew (S := (fun w' => (∀ b o, b < wr.heap.size → w'.cell? ⟨b, o, none⟩ = wr.cell? ⟨b, o, none⟩) ∧ Kp wr w')) (by kernel_rfl) ?_ (fun hHd => ?_); (focus ((try dsimp only); (first | with_reducible assumption | with_reducible exact held_start _ | with_reducible exact held_next (by assumption) (by assumption) | with_reducible exact held_alloc (by assumption) _ | with_reducible exact held_drew (by assumption) | ((with_reducible refine held_kp ?_); (repeat (first | with_reducible assumption | with_reducible exact Kp.refl _ | with_reducible refine Kp.drew ?_ | with_reducible refine Kp.drewN ?_ _ | with_reducible refine Kp.alloc ?_ _ | ((with_reducible refine Kp.setCell ?_ ?_ _); rotate_left; (focus (first | omega | (simp; done) | (simp; omega)))) | with_reducible refine Kp.trans ?_ (by assumption))))))))
          (refine takeH (i := 0) (oi := ?o1) (v := ?v1) ?h1 (by kernel_rfl) ?q1 (Or.inl ⟨?w1, ?y1⟩) (by assumption) ?r1; (case h1 => ((simp only [g1, g3]); rfl)); (case q1 => exact fun _ _ _ h => h); (case w1 => rfl); (case y1 => (intro w' hSw; (try dsimp only at hSw); go_simp; (try with_reducible rfl))); (try simp only [Act.put, s1, s2, s3]))
          (refine takeH (i := 1) (oi := ?o2) (v := ?v2) ?h2 (by kernel_rfl) ?q2 (Or.inl ⟨?w2, ?y2⟩) (by assumption) ?r2; (case h2 => ((simp only [g1, g2, g3]); rfl)); (case q2 => exact fun _ _ _ h => h); (case w2 => rfl); (case y2 => (intro w' hSw; (try dsimp only at hSw); go_simp; (try with_reducible rfl))); (try simp only [Act.put, s1, s2, s3]))
          (refine takeH (i := 2) (oi := ?o3) (v := ?v3) ?h3 (by kernel_rfl) ?q3 (Or.inl ⟨?w3, ?y3⟩) (by assumption) ?r3; (case h3 => ((simp only [g1, g2, g3]); rfl)); (case q3 => exact fun _ _ _ h => h); (case w3 => rfl); (case y3 => (intro w' hSw; (try dsimp only at hSw); go_simp; (try with_reducible rfl))); (try simp only [Act.put, s1, s2, s3]))
          (refine takeH (i := 3) (oi := ?o4) (v := ?v4) ?h4 (by kernel_rfl) ?q4 (Or.inl ⟨?w4, ?y4⟩) (by assumption) ?r4; (case h4 => ((simp only [g1, g2, g3]); rfl)); (case q4 => exact fun _ _ _ h => h); (case w4 => rfl); (case y4 => (intro w' hSw; (try dsimp only at hSw); go_simp; (try with_reducible rfl))); (try simp only [Act.put, s1, s2, s3]))
          (refine takeH (i := 4) (oi := ?o5) (v := ?v5) ?h5 (by kernel_rfl) ?q5 (Or.inl ⟨?w5, ?y5⟩) (by assumption) ?r5; (case h5 => ((simp only [g1, g2, g3]); rfl)); (case q5 => exact fun _ _ _ h => h); (case w5 => rfl); (case y5 => (intro w' hSw; (try dsimp only at hSw); go_simp; (try with_reducible rfl))); (try simp only [Act.put, s1, s2, s3]))
          (refine takeH (i := 5) (oi := ?o6) (v := ?v6) ?h6 (by kernel_rfl) ?q6 (Or.inl ⟨?w6, ?y6⟩) (by assumption) ?r6; (case h6 => ((simp only [g1, g2, g3]); rfl)); (case q6 => exact fun _ _ _ h => h); (case w6 => rfl); (case y6 => (intro w' hSw; (try dsimp only at hSw); go_simp; (try with_reducible rfl))); (try simp only [Act.put, s1, s2, s3]))
          (refine takeH (i := 6) (oi := ?o7) (v := ?v7) ?h7 (by kernel_rfl) ?q7 (Or.inl ⟨?w7, ?y7⟩) (by assumption) ?r7; (case h7 => ((simp only [g1, g2, g3]); rfl)); (case q7 => exact fun _ _ _ h => h); (case w7 => rfl); (case y7 => (intro w' hSw; (try dsimp only at hSw); go_simp; (try with_reducible rfl))); (try simp only [Act.put, s1, s2, s3]))
          (refine takeH (i := 7) (oi := ?o8) (v := ?v8) ?h8 (by kernel_rfl) ?q8 (Or.inl ⟨?w8, ?y8⟩) (by assumption) ?r8; (case h8 => ((simp only [g1, g2, g3]); rfl)); (case q8 => exact fun _ _ _ h => h); (case w8 => rfl); (case y8 => (intro w' hSw; (try dsimp only at hSw); go_simp; (try with_reducible rfl))); (try simp only [Act.put, s1, s2, s3]))
          (refine takeH (i := 8) (oi := ?o9) (v := ?v9) ?h9 (by kernel_rfl) ?q9 (Or.inl ⟨?w9, ?y9⟩) (by assumption) ?r9; (case h9 => ((simp only [g1, g2, g3]); rfl)); (case q9 => exact fun _ _ _ h => h); (case w9 => rfl); (case y9 => (intro w' hSw; (try dsimp only at hSw); go_simp; (try with_reducible rfl))); (try simp only [Act.put, s1, s2, s3]))
          refine wpAnyH_done (by kernel_rfl) ?_ _
          go_wp2_with fail
          (try go_ret)
          exact ⟨by rw [HNO.out]; rfl, (by (repeat (first | with_reducible assumption | with_reducible exact Kp.refl _ | with_reducible refine Kp.drew ?_ | with_reducible refine Kp.drewN ?_ _ | with_reducible refine Kp.alloc ?_ _ | ((with_reducible refine Kp.setCell ?_ ?_ _); rotate_left; (focus (first | omega | (simp; done) | (simp; omega)))) | with_reducible refine Kp.trans ?_ (by assumption))))⟩
        · have hys := YES.out he
          have hxy := eqPut_iff.1 he
          cases hxy
          have HYS := Lib.hid hys
          clear hdef hys he
          go_wp2_with fail
          (refine wp_region_held_drew (S := (fun w' => (∀ b o, b < wr.heap.size → w'.cell? ⟨b, o, none⟩ = wr.cell? ⟨b, o, none⟩) ∧ Kp wr w')) (by kernel_rfl) ?_ (fun hHd => ?_); (focus ((try dsimp only); (first | with_reducible assumption | with_reducible exact held_start _ | with_reducible exact held_next (by assumption) (by assumption) | with_reducible exact held_alloc (by assumption) _ | with_reducible exact held_drew (by assumption) | ((with_reducible refine held_kp ?_); (repeat (first | with_reducible assumption | with_reducible exact Kp.refl _ | with_reducible refine Kp.drew ?_ | with_reducible refine Kp.drewN ?_ _ | with_reducible refine Kp.alloc ?_ _ | ((with_reducible refine Kp.setCell ?_ ?_ _); rotate_left; (focus (first | omega | (simp; done) | (simp; omega)))) | with_reducible refine Kp.trans ?_ (by assumption))))))))
          (refine takeH (i := 0) (oi := ?o10) (v := ?v10) ?h10 (by kernel_rfl) ?q10 (Or.inl ⟨?w10, ?y10⟩) (by assumption) ?r10; (case h10 => ((simp only [g1, g3]); rfl)); (case q10 => exact fun _ _ _ h => h); (case w10 => rfl); (case y10 => (intro w' hSw; (try dsimp only at hSw); go_simp; (try with_reducible rfl))); (try simp only [Act.put, s1, s2, s3]))
          (refine takeH (i := 1) (oi := ?o11) (v := ?v11) ?h11 (by kernel_rfl) ?q11 (Or.inl ⟨?w11, ?y11⟩) (by assumption) ?r11; (case h11 => ((simp only [g1, g2, g3]); rfl)); (case q11 => exact fun _ _ _ h => h); (case w11 => rfl); (case y11 => (intro w' hSw; (try dsimp only at hSw); go_simp; (try with_reducible rfl))); (try simp only [Act.put, s1, s2, s3]))
          (refine takeH (i := 2) (oi := ?o12) (v := ?v12) ?h12 (by kernel_rfl) ?q12 (Or.inl ⟨?w12, ?y12⟩) (by assumption) ?r12; (case h12 => ((simp only [g1, g2, g3]); rfl)); (case q12 => exact fun _ _ _ h => h); (case w12 => rfl); (case y12 => (intro w' hSw; (try dsimp only at hSw); go_simp; (try with_reducible rfl))); (try simp only [Act.put, s1, s2, s3]))
          (refine takeH (i := 3) (oi := ?o13) (v := ?v13) ?h13 (by kernel_rfl) ?q13 (Or.inl ⟨?w13, ?y13⟩) (by assumption) ?r13; (case h13 => ((simp only [g1, g2, g3]); rfl)); (case q13 => exact fun _ _ _ h => h); (case w13 => rfl); (case y13 => (intro w' hSw; (try dsimp only at hSw); go_simp; (try with_reducible rfl))); (try simp only [Act.put, s1, s2, s3]))
          (refine takeH (i := 4) (oi := ?o14) (v := ?v14) ?h14 (by kernel_rfl) ?q14 (Or.inl ⟨?w14, ?y14⟩) (by assumption) ?r14; (case h14 => ((simp only [g1, g2, g3]); rfl)); (case q14 => exact fun _ _ _ h => h); (case w14 => rfl); (case y14 => (intro w' hSw; (try dsimp only at hSw); go_simp; (try with_reducible rfl))); (try simp only [Act.put, s1, s2, s3]))
          (refine takeH (i := 5) (oi := ?o15) (v := ?v15) ?h15 (by kernel_rfl) ?q15 (Or.inl ⟨?w15, ?y15⟩) (by assumption) ?r15; (case h15 => ((simp only [g1, g2, g3]); rfl)); (case q15 => exact fun _ _ _ h => h); (case w15 => rfl); (case y15 => (intro w' hSw; (try dsimp only at hSw); go_simp; (try with_reducible rfl))); (try simp only [Act.put, s1, s2, s3]))
          (refine takeH (i := 6) (oi := ?o16) (v := ?v16) ?h16 (by kernel_rfl) ?q16 (Or.inl ⟨?w16, ?y16⟩) (by assumption) ?r16; (case h16 => ((simp only [g1, g2, g3]); rfl)); (case q16 => exact fun _ _ _ h => h); (case w16 => rfl); (case y16 => (intro w' hSw; (try dsimp only at hSw); go_simp; (try with_reducible rfl))); (try simp only [Act.put, s1, s2, s3]))
          (refine takeH (i := 7) (oi := ?o17) (v := ?v17) ?h17 (by kernel_rfl) ?q17 (Or.inl ⟨?w17, ?y17⟩) (by assumption) ?r17; (case h17 => ((simp only [g1, g2, g3]); rfl)); (case q17 => exact fun _ _ _ h => h); (case w17 => rfl); (case y17 => (intro w' hSw; (try dsimp only at hSw); go_simp; (try with_reducible rfl))); (try simp only [Act.put, s1, s2, s3]))
          (refine takeH (i := 8) (oi := ?o18) (v := ?v18) ?h18 (by kernel_rfl) ?q18 (Or.inl ⟨?w18, ?y18⟩) (by assumption) ?r18; (case h18 => ((simp only [g1, g2, g3]); rfl)); (case q18 => exact fun _ _ _ h => h); (case w18 => rfl); (case y18 => (intro w' hSw; (try dsimp only at hSw); go_simp; (try with_reducible rfl))); (try simp only [Act.put, s1, s2, s3]))
          refine wpAnyH_done (by kernel_rfl) ?_ _
          go_wp2_with fail
          go_roundw
          case rel => exact ⟨k + 1, by omega, by go_num, HYS.out, (by (repeat (first | with_reducible assumption | with_reducible exact Kp.refl _ | with_reducible refine Kp.drew ?_ | with_reducible refine Kp.drewN ?_ _ | with_reducible refine Kp.alloc ?_ _ | ((with_reducible refine Kp.setCell ?_ ?_ _); rotate_left; (focus (first | omega | (simp; done) | (simp; omega)))) | with_reducible refine Kp.trans ?_ (by assumption))))⟩
          case measure => simp [intOf]; omega
      · obtain rfl : k = l1.length := by omega
        have j1 : decide ((l1.length : Int) < (l1.length : Int)) = false := decide_eq_false (by omega)
        have hy : eqL eqPut l1 l2 = true := eqL_yes hLN.out fun j x y h1 h2 => HALL.out j x y (List.getElem?_eq_some_iff.1 h1).1 h1 h2
        have HY := Lib.hid hy
        clear hy
        go_wp2_with fail
        (try go_ret)
        exact ⟨by rw [HY.out]; rfl, xk⟩
  · have HN := Lib.hid (eqL_neLen (f := eqPut) hln)
    have hj : ((l1.length : Int) == (l2.length : Int)) = false := by simp; omega
    go_wp2_with fail
    (try go_ret)
    exact ⟨by rw [HN.out]; rfl, (by (repeat (first | with_reducible assumption | with_reducible exact Kp.refl _ | with_reducible refine Kp.drew ?_ | with_reducible refine Kp.drewN ?_ _ | with_reducible refine Kp.alloc ?_ _ | ((with_reducible refine Kp.setCell ?_ ?_ _); rotate_left; (focus (first | omega | (simp; done) | (simp; omega)))) | with_reducible refine Kp.trans ?_ (by assumption))))⟩
end Go.Proofs.YtfiejiokconobaaDoor
