/- The sums of a list: the walk of New. -/
import Derived.Test.YteipfamaclildaaFair

import Derived.Test.YteipfamaclildaaSumsQ

import Derived.Test.YteipfamaclildaaClone

import Derived.Test.YteipfamaclildaaHeld

namespace Go.Proofs.Yteipfamaclildaa

open Go.RowKit

theorem new_long (a : Option Addr) (len cap : Nat) (w : World) (h : 4096 < len) : Calls Try.prog 13 #[.slice a len cap] w fun e w' => e = .returned (.tuple #[.pointer none, .bool false]) ∧ Kp w w' := by
  have h1 : decide ((4096 : Int) < len) = true := decide_eq_true (by omega)
  go_enter Try.func13, Try.ntmps13
  go_wp2
  go_ret2
  exact ⟨rfl, (by (repeat (first | with_reducible assumption | with_reducible exact Kp.refl _ | with_reducible refine Kp.drew ?_ | with_reducible refine Kp.drewN ?_ _ | with_reducible refine Kp.alloc ?_ _ | ((with_reducible refine Kp.setCell ?_ ?_ _); rotate_left; (focus (first | omega | (simp; done) | (simp; omega)))) | with_reducible refine Kp.trans ?_ (by assumption))))⟩

/-- What New has made when the loop stands at place k. -/
structure SumsK (w : World) (p : Nat) (a : Option Addr) (cap ba bb : Nat) (l : List Item) (k : Nat) : Prop where
  head : Blk w p [.slice a l.length cap, .slice (some ⟨ba, 0, none⟩) (l.length + 1) (l.length + 1), .slice (some ⟨bb, 0, none⟩) (l.length + 1) (l.length + 1)] 81
  items : SlOk w 7 Item.cells a l.length cap l
  ahead : Blk w ba (intsF ((l.length + 1) * 6) (aheadF l k)) 31
  boxes : Blk w bb (intsF (l.length + 1) (boxF l k)) 28
theorem SumsK.kp {w w' : World} {p : Nat} {a : Option Addr} {cap ba bb : Nat} {l : List Item} {k : Nat} (h : SumsK w p a cap ba bb l k) (kw : Kp w w') : SumsK w' p a cap ba bb l k :=
  ⟨h.head.kp kw, h.items.kp kw, h.ahead.kp kw, h.boxes.kp kw⟩
def SumsOk (w : World) (p : Nat) (l : List Item) : Prop := ∃ a cap ba bb, SumsK w p a cap ba bb l l.length

/-- What is known in the midst of a round. -/
structure Mid (w w' : World) (p : Nat) (a : Option Addr) (cap ba bb : Nat) (l : List Item) (k q b off : Nat) (s t : Tot) (x0 x1 : Int) : Prop where
  head : Blk w' p [.slice a l.length cap, .slice (some ⟨ba, 0, none⟩) (l.length + 1) (l.length + 1), .slice (some ⟨bb, 0, none⟩) (l.length + 1) (l.length + 1)] 81
  items : SlOk w' 7 Item.cells a l.length cap l
  boxes : Blk w' bb (intsF (l.length + 1) (boxF l k)) 28
  tot : Blk w' q [.int .i64 t.nat, .int .i64 t.s0, .int .i64 t.s1, .int .i64 t.s2, .int .i64 t.s3, .int .i64 t.shr] 31
  kp : Kp w w'
  lt : b < w'.heap.size
  c0 : w'.cell? ⟨b, off + k * 7, none⟩ = some (.int .i64 x0)
  c1 : w'.cell? ⟨b, off + k * 7 + 1, none⟩ = some (.int .i64 x1)
  hs : psum (l.take k) = s
  hk : k < l.length
  ahead : ∃ F, (F = aheadF l k ∨ F = aheadF l (k + 1)) ∧ Blk w' ba (intsF ((l.length + 1) * 6) F) 31
theorem Mid.go {w w' w'' : World} {p : Nat} {a : Option Addr} {cap ba bb : Nat} {l : List Item} {k q b off : Nat} {s t : Tot} {x0 x1 : Int} (h : Mid w w' p a cap ba bb l k q b off s t x0 x1) (kw : Kp w' w'') : Mid w w'' p a cap ba bb l k q b off s t x0 x1 := by
  obtain ⟨F, hF, hB⟩ := h.ahead
  exact ⟨h.head.kp kw, h.items.kp kw, h.boxes.kp kw, h.tot.kp kw, h.kp.trans kw, Nat.lt_of_lt_of_le h.lt kw.size, (kw.cell (p := ⟨b, off + k * 7, none⟩) h.lt).trans h.c0, (kw.cell (p := ⟨b, off + k * 7 + 1, none⟩) h.lt).trans h.c1, h.hs, h.hk, F, hF, hB.kp kw⟩
theorem Mid.S {w w' : World} {p : Nat} {a : Option Addr} {cap ba bb : Nat} {l : List Item} {k q b off : Nat} {s0 s1 s2 s3 s4 s5 t0 t1 t2 t3 t4 t5 : Int} {x0 x1 : Int} (h : Mid w w' p a cap ba bb l k q b off ⟨s0, s1, s2, s3, s4, s5⟩ ⟨t0, t1, t2, t3, t4, t5⟩ x0 x1) :
    (w'.cell? ⟨p, 1, none⟩ = some (.slice (some ⟨ba, 0, none⟩) (l.length + 1) (l.length + 1)) ∧ (w'.cell? ⟨ba, k * 6, none⟩ = some (.int .i64 s0) ∧ w'.cell? ⟨ba, k * 6 + 1, none⟩ = some (.int .i64 s1) ∧ w'.cell? ⟨ba, k * 6 + 2, none⟩ = some (.int .i64 s2) ∧ w'.cell? ⟨ba, k * 6 + 3, none⟩ = some (.int .i64 s3) ∧ w'.cell? ⟨ba, k * 6 + 4, none⟩ = some (.int .i64 s4) ∧ w'.cell? ⟨ba, k * 6 + 5, none⟩ = some (.int .i64 s5)) ∧
      (w'.cell? ⟨q, 0, none⟩ = some (.int .i64 t0) ∧ w'.cell? ⟨q, 1, none⟩ = some (.int .i64 t1) ∧ w'.cell? ⟨q, 2, none⟩ = some (.int .i64 t2) ∧ w'.cell? ⟨q, 3, none⟩ = some (.int .i64 t3) ∧ w'.cell? ⟨q, 4, none⟩ = some (.int .i64 t4) ∧ w'.cell? ⟨q, 5, none⟩ = some (.int .i64 t5))) ∧ Hid (Mid w w' p a cap ba bb l k q b off ⟨s0, s1, s2, s3, s4, s5⟩ ⟨t0, t1, t2, t3, t4, t5⟩ x0 x1) := by
  obtain ⟨F, hF, hB⟩ := h.ahead
  have hk := h.hk
  have hc : ∀ c, c < 6 → w'.cell? ⟨ba, k * 6 + c, none⟩ = some (.int .i64 (comp ⟨s0, s1, s2, s3, s4, s5⟩ c)) := fun c hc => by
    have e := hB.at (k * 6 + c) (by omega)
    rcases hF with rfl | rfl
    · rw [aheadF_at l (Nat.le_refl k) hc, h.hs] at e; exact e
    · rw [aheadF_at l (Nat.le_succ k) hc, h.hs] at e; exact e
  exact ⟨⟨h.head.cell 1 rfl, ⟨hc 0 (by decide), hc 1 (by decide), hc 2 (by decide), hc 3 (by decide), hc 4 (by decide), hc 5 (by decide)⟩, h.tot.cell 0 rfl, h.tot.cell 1 rfl, h.tot.cell 2 rfl, h.tot.cell 3 rfl, h.tot.cell 4 rfl, h.tot.cell 5 rfl⟩, Lib.hid h⟩

theorem wpStMid {op : Oper} {act : Act} {w w' : World} {K : Act → World → Prop} {Q : Exit → Act → World → Prop} {p : Nat} {a : Option Addr} {cap ba bb : Nat} {l : List Item} {k q b off : Nat} {s t : Tot} {x0 x1 u0 u1 u2 u3 u4 u5 : Int} (M : Mid w w' p a cap ba bb l k q b off s t x0 x1)
    (hu : psum (l.take (k + 1)) = ⟨u0, u1, u2, u3, u4, u5⟩) (n1 : ba ≠ p) (n3 : ba ≠ bb) (n4 : ∀ b off, a = some ⟨b, off, none⟩ → b ≠ ba ∧ b ≠ bb) (nq : ba ≠ q) (nb : b ≠ ba) (hba : w.heap.size ≤ ba) (x y : Operand) (ho : op.op = .store 31 x y)
    (hx : act.eval x = .pointer (some ⟨ba, (k + 1) * 6, none⟩)) (hy : act.eval y = .agg #[.int .i64 u0, .int .i64 u1, .int .i64 u2, .int .i64 u3, .int .i64 u4, .int .i64 u5])
    (h : ∀ w6, Mid w w6 p a cap ba bb l k q b off s t x0 x1 → Blk w6 ba (intsF ((l.length + 1) * 6) (aheadF l (k + 1))) 31 → K (act.put op.dst undef) w6) : op.wp Try.prog act w' K Q := by
  obtain ⟨F, hF, hB⟩ := M.ahead
  have hk := M.hk
  refine wpStTot x y ho hB (by omega) (fun j _ => ahead_splice hu hF j) hx hy ?_
  intro w6 hB6 oth cel kp6 sz6
  exact h w6 ⟨oth n1.symm M.head, M.items.far (fun b off h => (n4 b off h).1) cel (Nat.le_of_eq sz6), oth n3.symm M.boxes, oth nq.symm M.tot, kp6 hba M.kp, Nat.lt_of_lt_of_le M.lt (Nat.le_of_eq sz6), (cel ⟨b, off + k * 7, none⟩ nb).trans M.c0, (cel ⟨b, off + k * 7 + 1, none⟩ nb).trans M.c1, M.hs, M.hk, _, .inr rfl, hB6⟩ hB6

theorem setFar (w : World) (p q : Addr) (v : Value) (h : q.block ≠ p.block) : (w.setCell p v).drew.cell? q = w.cell? q := World.cell?_of_block (Below.heap_setCell w p v q.block h)
theorem setSize (w : World) (p : Addr) (v : Value) : (w.setCell p v).drew.heap.size = w.heap.size := by
  show (w.heap.modify p.block _).size = _
  simp
/-- What is known behind the total of a round. -/
structure Lat (w w' : World) (p : Nat) (a : Option Addr) (cap ba bb : Nat) (l : List Item) (k b off : Nat) (F : Nat → Int) (x0 x1 : Int) : Prop where
  head : Blk w' p [.slice a l.length cap, .slice (some ⟨ba, 0, none⟩) (l.length + 1) (l.length + 1), .slice (some ⟨bb, 0, none⟩) (l.length + 1) (l.length + 1)] 81
  items : SlOk w' 7 Item.cells a l.length cap l
  ahead : Blk w' ba (intsF ((l.length + 1) * 6) (aheadF l (k + 1))) 31
  boxes : Blk w' bb (intsF (l.length + 1) F) 28
  kp : Kp w w'
  c0 : w'.cell? ⟨b, off + k * 7, none⟩ = some (.int .i64 x0)
  c1 : w'.cell? ⟨b, off + k * 7 + 1, none⟩ = some (.int .i64 x1)
theorem Lat.put {w w' : World} {p : Nat} {a : Option Addr} {cap ba bb : Nat} {l : List Item} {k b off : Nat} {F : Nat → Int} {x0 x1 : Int} (h : Lat w w' p a cap ba bb l k b off F x0 x1) (n2 : bb ≠ p) (n3 : ba ≠ bb) (n4 : ∀ b off, a = some ⟨b, off, none⟩ → b ≠ ba ∧ b ≠ bb) (nb : b ≠ bb) (hbb : w.heap.size ≤ bb) (j : Nat) (v : Int) :
    Lat w (w'.setCell ⟨bb, j, none⟩ (.int .i64 v)).drew p a cap ba bb l k b off (upd F j v) x0 x1 :=
  ⟨(h.head.other (a := ⟨bb, j, none⟩) n2.symm _).drew, h.items.far (fun b off e => (n4 b off e).2) (fun p hp => setFar w' ⟨bb, j, none⟩ p _ hp) (Nat.le_of_eq (setSize _ _ _).symm), (h.ahead.other (a := ⟨bb, j, none⟩) n3 _).drew, (by have := (h.boxes.set j (.int .i64 v)).drew; rwa [intsF_set] at this), (h.kp.setCell (p := ⟨bb, j, none⟩) hbb _).drew, (setFar w' ⟨bb, j, none⟩ ⟨b, off + k * 7, none⟩ _ nb).trans h.c0, (setFar w' ⟨bb, j, none⟩ ⟨b, off + k * 7 + 1, none⟩ _ nb).trans h.c1⟩

set_option maxRecDepth 100000 in
set_option maxHeartbeats 8000000 in
theorem new_main (a : Option Addr) (len cap : Nat) (l : List Item) (w : World) (hl : SlOk w 7 Item.cells a len cap l) (h4 : len ≤ 4096) :
    Calls Try.prog 13 #[.slice a len cap] w fun e w' => Kp w w' ∧ ((fairL l = false ∧ e = .returned (.tuple #[.pointer none, .bool false])) ∨ (fairL l = true ∧ ∃ p, e = .returned (.tuple #[.pointer (some ⟨p, 0, none⟩), .bool true]) ∧ SumsOk w' p l)) := by
  have hlen : l.length = len := hl.1
  subst hlen
  have h1 : decide ((4096 : Int) < l.length) = false := decide_eq_false (by omega)
  have hm1 : ∀ W : World, (Instr.makeSlice 35 (.int .i64 ((l.length : Int) + 1)) (.int .i64 ((l.length : Int) + 1))).run Try.prog W = .ok (.slice (some ⟨W.heap.size, 0, none⟩) (l.length + 1) (l.length + 1)) (W.alloc (.cells (intsF ((l.length + 1) * 6) (aheadF l 0)).toArray 31)) := fun W => by
    have h := make_tot (l.length + 1) (by omega) (aheadF l 0) (fun j _ => aheadF_zero l j) W
    push_cast at h
    exact h
  have hm2 : ∀ W : World, (Instr.makeSlice 49 (.int .i64 ((l.length : Int) + 1)) (.int .i64 ((l.length : Int) + 1))).run Try.prog W = .ok (.slice (some ⟨W.heap.size, 0, none⟩) (l.length + 1) (l.length + 1)) (W.alloc (.cells (intsF (l.length + 1) (boxF l 0)).toArray 28)) := fun W => by
    have h := make_sp (l.length + 1) (by omega) (boxF l 0) (fun j _ => boxF_zero l j) W
    push_cast at h
    exact h
  have hwr : IntKind.i64.wrap ((l.length : Int) + 1) = (l.length : Int) + 1 := by rw [IntKind.wrap_i64]; omega
  go_enter Try.func13, Try.ntmps13
  go_wp2
  go_cut [4] (fun v4 wc => ∃ p a' cap' ba bb, v4 = .pointer (some ⟨p, 0, none⟩) ∧ SumsK wc p a' cap' ba bb l 0 ∧ (ba ≠ p ∧ bb ≠ p ∧ ba ≠ bb ∧ ∀ b off, a' = some ⟨b, off, none⟩ → b ≠ ba ∧ b ≠ bb) ∧ w.heap.size ≤ ba ∧ w.heap.size ≤ bb ∧ w.heap.size ≤ p ∧ Kp w wc)
  case first =>
    (refine wp_region_held_drew (S := (fun w' => (∀ b o, b < w.heap.size → w'.cell? ⟨b, o, none⟩ = w.cell? ⟨b, o, none⟩) ∧ Kp w w')) (by kernel_rfl) ?_ (fun hHd => ?_); (focus ((try dsimp only); (first | with_reducible assumption | with_reducible exact held_start _ | with_reducible exact held_next (by assumption) (by assumption) | with_reducible exact held_alloc (by assumption) _ | with_reducible exact held_drew (by assumption) | ((with_reducible refine held_kp ?_); (repeat (first | with_reducible assumption | with_reducible exact Kp.refl _ | with_reducible refine Kp.drew ?_ | with_reducible refine Kp.drewN ?_ _ | with_reducible refine Kp.alloc ?_ _ | ((with_reducible refine Kp.setCell ?_ ?_ _); rotate_left; (focus (first | omega | (simp; done) | (simp; omega)))) | with_reducible refine Kp.trans ?_ (by assumption))))))))
    (refine takeH (i := 0) (oi := ?o1) (v := ?v1) ?h1 (by kernel_rfl) ?q1 (Or.inl ⟨?w1, ?y1⟩) (by assumption) ?r1; (case h1 => ((simp only [g1, g3]); rfl)); (case q1 => exact fun _ _ _ h => h); (case w1 => rfl); (case y1 => (intro w' hSw; (try dsimp only at hSw); go_simp; (try with_reducible rfl))); (try simp only [Act.put, s1, s2, s3]))
    (refine takeH (i := 2) (oi := ?o2) (v := ?v2) ?h2 (by kernel_rfl) ?q2 (Or.inl ⟨?w2, ?y2⟩) (by assumption) ?r2; (case h2 => ((simp only [g1, g2, g3]); rfl)); (case q2 => exact fun _ _ _ h => h); (case w2 => rfl); (case y2 => (intro w' hSw; (try dsimp only at hSw); go_simp; (try with_reducible rfl))); (try simp only [Act.put, s1, s2, s3]))
    (refine takeH (i := 3) (oi := ?o3) (v := ?v3) ?h3 (by kernel_rfl) ?q3 (Or.inl ⟨?w3, ?y3⟩) (by assumption) ?r3; (case h3 => ((simp only [g1, g2, g3]); rfl)); (case q3 => exact fun _ _ _ h => h); (case w3 => rfl); (case y3 => (intro w' hSw; (try dsimp only at hSw); go_simp; (try with_reducible rfl))); (try simp only [Act.put, s1, s2, s3]))
    (refine takeH (i := 4) (oi := ?o4) (v := ?v4) ?h4 (by kernel_rfl) ?q4 (Or.inl ⟨?w4, ?y4⟩) (by assumption) ?r4; (case h4 => ((simp only [g1, g2, g3]); rfl)); (case q4 => exact fun _ _ _ h => h); (case w4 => rfl); (case y4 => (intro w' hSw; (try dsimp only at hSw); go_simp; (try with_reducible rfl))); (try simp only [Act.put, s1, s2, s3]))
    (refine takeH (i := 6) (oi := ?o5) (v := ?v5) ?h5 (by kernel_rfl) ?q5 (Or.inl ⟨?w5, ?y5⟩) (by assumption) ?r5; (case h5 => ((simp only [g1, g2, g3]); rfl)); (case q5 => exact fun _ _ _ h => h); (case w5 => rfl); (case y5 => (intro w' hSw; (try dsimp only at hSw); go_simp; (try with_reducible rfl))); (try simp only [Act.put, s1, s2, s3]))
    (refine takeH (i := 7) (oi := ?o6) (v := ?v6) ?h6 (by kernel_rfl) ?q6 (Or.inl ⟨?w6, ?y6⟩) (by assumption) ?r6; (case h6 => ((simp only [g1, g2, g3]); rfl)); (case q6 => exact fun _ _ _ h => h); (case w6 => rfl); (case y6 => (intro w' hSw; (try dsimp only at hSw); go_simp; (try with_reducible rfl))); (try simp only [Act.put, s1, s2, s3]))
    (refine takeH (i := 8) (oi := ?o7) (v := ?v7) ?h7 (by kernel_rfl) ?q7 (Or.inl ⟨?w7, ?y7⟩) (by assumption) ?r7; (case h7 => ((simp only [g1, g2, g3]); rfl)); (case q7 => exact fun _ _ _ h => h); (case w7 => rfl); (case y7 => (intro w' hSw; (try dsimp only at hSw); go_simp; (try with_reducible rfl))); (try simp only [Act.put, s1, s2, s3]))
    (refine wpAnyH_ready (rs := [1, 5, 9]) (by kernel_rfl) (by simp) ?_; refine (AllReadyH.cons (o := ?o8) ?h8 (fun K hK => ?s8) (AllReadyH.cons (o := ?o9) ?h9 (fun K hK => ?s9) (AllReadyH.cons (o := ?o10) ?h10 (fun K hK => ?s10) AllReadyH.nil))); (case h8 => (first | ((simp only [g1, g2, g3]); rfl) | rfl)); (case h9 => (first | ((simp only [g1, g2, g3]); rfl) | rfl)); (case h10 => (first | ((simp only [g1, g2, g3]); rfl) | rfl)))
    (go_simp; (first | (go_at_call 43; go_must (refine (clone_any a l.length cap l _ (hl.kp hHd.2) h4).mono ?_); rintro e w3 ⟨v, rfl, hv, kk⟩; obtain ⟨a', cap', rfl, hs⟩ := hv.sl (fun x => Item.cells_length x); have ksz := (hHd.2.trans kk).size; have ksq := kk.size; (try simp at ksq))); (try dsimp only); refine hK.out _ _ ?_ (fun hHd => ?_); (focus ((try dsimp only); (first | with_reducible assumption | with_reducible exact held_next (by assumption) (by assumption) | with_reducible exact held_alloc (by assumption) _))); clear hK K; (try simp only [Act.put, s1, s2, s3]))
    (refine wpAnyH_ready (rs := [5, 9]) (by kernel_rfl) (by simp) ?_; refine (AllReadyH.cons (o := ?o11) ?h11 (fun K hK => ?s11) (AllReadyH.cons (o := ?o12) ?h12 (fun K hK => ?s12) AllReadyH.nil)); (case h11 => (first | ((simp only [g1, g2, g3]); rfl) | rfl)); (case h12 => (first | ((simp only [g1, g2, g3]); rfl) | rfl)))
    (go_simp; (try dsimp only); refine hK.out _ _ ?_ (fun hHd => ?_); (focus ((try dsimp only); (first | with_reducible assumption | with_reducible exact held_start _ | with_reducible exact held_next (by assumption) (by assumption) | with_reducible exact held_alloc (by assumption) _ | with_reducible exact held_drew (by assumption) | ((with_reducible refine held_kp ?_); (repeat (first | with_reducible assumption | with_reducible exact Kp.refl _ | with_reducible refine Kp.drew ?_ | with_reducible refine Kp.drewN ?_ _ | with_reducible refine Kp.alloc ?_ _ | ((with_reducible refine Kp.setCell ?_ ?_ _); rotate_left; (focus (first | omega | (simp; done) | (simp; omega)))) | with_reducible refine Kp.trans ?_ (by assumption))))))); clear hK K; (try simp only [Act.put, s1, s2, s3]))
    (refine wpAnyH_ready (rs := [9]) (by kernel_rfl) (by simp) ?_; refine AllReadyH.cons (o := ?o13) ?h13 (fun K hK => ?s13) AllReadyH.nil; (case h13 => (first | ((simp only [g1, g2, g3]); rfl) | rfl)); go_simp; (try dsimp only); refine hK.out _ _ ?_ (fun hHd => ?_); (focus ((try dsimp only); (first | with_reducible assumption | with_reducible exact held_start _ | with_reducible exact held_next (by assumption) (by assumption) | with_reducible exact held_alloc (by assumption) _ | with_reducible exact held_drew (by assumption) | ((with_reducible refine held_kp ?_); (repeat (first | with_reducible assumption | with_reducible exact Kp.refl _ | with_reducible refine Kp.drew ?_ | with_reducible refine Kp.drewN ?_ _ | with_reducible refine Kp.alloc ?_ _ | ((with_reducible refine Kp.setCell ?_ ?_ _); rotate_left; (focus (first | omega | (simp; done) | (simp; omega)))) | with_reducible refine Kp.trans ?_ (by assumption))))))); clear hK K; (try simp only [Act.put, s1, s2, s3]))
    (refine takeH (i := 10) (oi := ?o14) (v := ?v14) ?h14 (by kernel_rfl) ?q14 (Or.inl ⟨?w14, ?y14⟩) (by assumption) ?r14; (case h14 => ((simp only [g1, g2, g3]); rfl)); (case q14 => exact fun _ _ _ h => h); (case w14 => rfl); (case y14 => (intro w' hSw; (try dsimp only at hSw); go_simp; (try with_reducible rfl))); (try simp only [Act.put, s1, s2, s3]))
    (refine wpAnyH_ready (rs := [11]) (by kernel_rfl) (by simp) ?_; refine AllReadyH.cons (o := ?o15) ?h15 (fun K hK => ?s15) AllReadyH.nil; (case h15 => (first | ((simp only [g1, g2, g3]); rfl) | rfl)); go_simp; (try dsimp only); refine hK.out _ _ ?_ (fun hHd => ?_); (focus ((try dsimp only); (first | with_reducible assumption | with_reducible exact held_start _ | with_reducible exact held_next (by assumption) (by assumption) | with_reducible exact held_alloc (by assumption) _ | with_reducible exact held_drew (by assumption) | ((with_reducible refine held_kp ?_); (repeat (first | with_reducible assumption | with_reducible exact Kp.refl _ | with_reducible refine Kp.drew ?_ | with_reducible refine Kp.drewN ?_ _ | with_reducible refine Kp.alloc ?_ _ | ((with_reducible refine Kp.setCell ?_ ?_ _); rotate_left; (focus (first | omega | (simp; done) | (simp; omega)))) | with_reducible refine Kp.trans ?_ (by assumption))))))); clear hK K; (try simp only [Act.put, s1, s2, s3]))
    (refine takeH (i := 12) (oi := ?o16) (v := ?v16) ?h16 (by kernel_rfl) ?q16 (Or.inl ⟨?w16, ?y16⟩) (by assumption) ?r16; (case h16 => ((simp only [g1, g2, g3]); rfl)); (case q16 => exact fun _ _ _ h => h); (case w16 => rfl); (case y16 => (intro w' hSw; (try dsimp only at hSw); go_simp; (try with_reducible rfl))); (try simp only [Act.put, s1, s2, s3]))
    refine wpAnyH_done (by kernel_rfl) ?_ _
    rotate_left
    (go_simp; (try dsimp only); refine hK.out _ _ ?_ (fun hHd => ?_); (focus ((try dsimp only); (first | with_reducible assumption | with_reducible exact held_start _ | with_reducible exact held_next (by assumption) (by assumption) | with_reducible exact held_alloc (by assumption) _ | with_reducible exact held_drew (by assumption) | ((with_reducible refine held_kp ?_); (repeat (first | with_reducible assumption | with_reducible exact Kp.refl _ | with_reducible refine Kp.drew ?_ | with_reducible refine Kp.drewN ?_ _ | with_reducible refine Kp.alloc ?_ _ | ((with_reducible refine Kp.setCell ?_ ?_ _); rotate_left; (focus (first | omega | (simp; done) | (simp; omega)))) | with_reducible refine Kp.trans ?_ (by assumption))))))); clear hK K; (try simp only [Act.put, s1, s2, s3]))
    (refine wpAnyH_ready (rs := [5]) (by kernel_rfl) (by simp) ?_; refine AllReadyH.cons (o := ?o17) ?h17 (fun K hK => ?s17) AllReadyH.nil; (case h17 => (first | ((simp only [g1, g2, g3]); rfl) | rfl)); go_simp; (try dsimp only); refine hK.out _ _ ?_ (fun hHd => ?_); (focus ((try dsimp only); (first | with_reducible assumption | with_reducible exact held_start _ | with_reducible exact held_next (by assumption) (by assumption) | with_reducible exact held_alloc (by assumption) _ | with_reducible exact held_drew (by assumption) | ((with_reducible refine held_kp ?_); (repeat (first | with_reducible assumption | with_reducible exact Kp.refl _ | with_reducible refine Kp.drew ?_ | with_reducible refine Kp.drewN ?_ _ | with_reducible refine Kp.alloc ?_ _ | ((with_reducible refine Kp.setCell ?_ ?_ _); rotate_left; (focus (first | omega | (simp; done) | (simp; omega)))) | with_reducible refine Kp.trans ?_ (by assumption))))))); clear hK K; (try simp only [Act.put, s1, s2, s3]))
    (refine takeH (i := 10) (oi := ?o18) (v := ?v18) ?h18 (by kernel_rfl) ?q18 (Or.inl ⟨?w18, ?y18⟩) (by assumption) ?r18; (case h18 => ((simp only [g1, g2, g3]); rfl)); (case q18 => exact fun _ _ _ h => h); (case w18 => rfl); (case y18 => (intro w' hSw; (try dsimp only at hSw); go_simp; (try with_reducible rfl))); (try simp only [Act.put, s1, s2, s3]))
    (refine wpAnyH_ready (rs := [11]) (by kernel_rfl) (by simp) ?_; refine AllReadyH.cons (o := ?o19) ?h19 (fun K hK => ?s19) AllReadyH.nil; (case h19 => (first | ((simp only [g1, g2, g3]); rfl) | rfl)); go_simp; (try dsimp only); refine hK.out _ _ ?_ (fun hHd => ?_); (focus ((try dsimp only); (first | with_reducible assumption | with_reducible exact held_start _ | with_reducible exact held_next (by assumption) (by assumption) | with_reducible exact held_alloc (by assumption) _ | with_reducible exact held_drew (by assumption) | ((with_reducible refine held_kp ?_); (repeat (first | with_reducible assumption | with_reducible exact Kp.refl _ | with_reducible refine Kp.drew ?_ | with_reducible refine Kp.drewN ?_ _ | with_reducible refine Kp.alloc ?_ _ | ((with_reducible refine Kp.setCell ?_ ?_ _); rotate_left; (focus (first | omega | (simp; done) | (simp; omega)))) | with_reducible refine Kp.trans ?_ (by assumption))))))); clear hK K; (try simp only [Act.put, s1, s2, s3]))
    (refine takeH (i := 12) (oi := ?o20) (v := ?v20) ?h20 (by kernel_rfl) ?q20 (Or.inl ⟨?w20, ?y20⟩) (by assumption) ?r20; (case h20 => ((simp only [g1, g2, g3]); rfl)); (case q20 => exact fun _ _ _ h => h); (case w20 => rfl); (case y20 => (intro w' hSw; (try dsimp only at hSw); go_simp; (try with_reducible rfl))); (try simp only [Act.put, s1, s2, s3]))
    refine wpAnyH_done (by kernel_rfl) ?_ _
    rotate_left
    (go_simp; (try dsimp only); refine hK.out _ _ ?_ (fun hHd => ?_); (focus ((try dsimp only); (first | with_reducible assumption | with_reducible exact held_start _ | with_reducible exact held_next (by assumption) (by assumption) | with_reducible exact held_alloc (by assumption) _ | with_reducible exact held_drew (by assumption) | ((with_reducible refine held_kp ?_); (repeat (first | with_reducible assumption | with_reducible exact Kp.refl _ | with_reducible refine Kp.drew ?_ | with_reducible refine Kp.drewN ?_ _ | with_reducible refine Kp.alloc ?_ _ | ((with_reducible refine Kp.setCell ?_ ?_ _); rotate_left; (focus (first | omega | (simp; done) | (simp; omega)))) | with_reducible refine Kp.trans ?_ (by assumption))))))); clear hK K; (try simp only [Act.put, s1, s2, s3]))
    (refine wpAnyH_ready (rs := [1, 9]) (by kernel_rfl) (by simp) ?_; refine (AllReadyH.cons (o := ?o21) ?h21 (fun K hK => ?s21) (AllReadyH.cons (o := ?o22) ?h22 (fun K hK => ?s22) AllReadyH.nil)); (case h21 => (first | ((simp only [g1, g2, g3]); rfl) | rfl)); (case h22 => (first | ((simp only [g1, g2, g3]); rfl) | rfl)))
    (go_simp; (first | (go_at_call 43; go_must (refine (clone_any a l.length cap l _ (hl.kp hHd.2) h4).mono ?_); rintro e w3 ⟨v, rfl, hv, kk⟩; obtain ⟨a', cap', rfl, hs⟩ := hv.sl (fun x => Item.cells_length x); have ksz := (hHd.2.trans kk).size; have ksq := kk.size; (try simp at ksq))); (try dsimp only); refine hK.out _ _ ?_ (fun hHd => ?_); (focus ((try dsimp only); (first | with_reducible assumption | with_reducible exact held_next (by assumption) (by assumption) | with_reducible exact held_alloc (by assumption) _))); clear hK K; (try simp only [Act.put, s1, s2, s3]))
    (refine wpAnyH_ready (rs := [9]) (by kernel_rfl) (by simp) ?_; refine AllReadyH.cons (o := ?o23) ?h23 (fun K hK => ?s23) AllReadyH.nil; (case h23 => (first | ((simp only [g1, g2, g3]); rfl) | rfl)); go_simp; (try dsimp only); refine hK.out _ _ ?_ (fun hHd => ?_); (focus ((try dsimp only); (first | with_reducible assumption | with_reducible exact held_start _ | with_reducible exact held_next (by assumption) (by assumption) | with_reducible exact held_alloc (by assumption) _ | with_reducible exact held_drew (by assumption) | ((with_reducible refine held_kp ?_); (repeat (first | with_reducible assumption | with_reducible exact Kp.refl _ | with_reducible refine Kp.drew ?_ | with_reducible refine Kp.drewN ?_ _ | with_reducible refine Kp.alloc ?_ _ | ((with_reducible refine Kp.setCell ?_ ?_ _); rotate_left; (focus (first | omega | (simp; done) | (simp; omega)))) | with_reducible refine Kp.trans ?_ (by assumption))))))); clear hK K; (try simp only [Act.put, s1, s2, s3]))
    (refine takeH (i := 10) (oi := ?o24) (v := ?v24) ?h24 (by kernel_rfl) ?q24 (Or.inl ⟨?w24, ?y24⟩) (by assumption) ?r24; (case h24 => ((simp only [g1, g2, g3]); rfl)); (case q24 => exact fun _ _ _ h => h); (case w24 => rfl); (case y24 => (intro w' hSw; (try dsimp only at hSw); go_simp; (try with_reducible rfl))); (try simp only [Act.put, s1, s2, s3]))
    (refine wpAnyH_ready (rs := [11]) (by kernel_rfl) (by simp) ?_; refine AllReadyH.cons (o := ?o25) ?h25 (fun K hK => ?s25) AllReadyH.nil; (case h25 => (first | ((simp only [g1, g2, g3]); rfl) | rfl)); go_simp; (try dsimp only); refine hK.out _ _ ?_ (fun hHd => ?_); (focus ((try dsimp only); (first | with_reducible assumption | with_reducible exact held_start _ | with_reducible exact held_next (by assumption) (by assumption) | with_reducible exact held_alloc (by assumption) _ | with_reducible exact held_drew (by assumption) | ((with_reducible refine held_kp ?_); (repeat (first | with_reducible assumption | with_reducible exact Kp.refl _ | with_reducible refine Kp.drew ?_ | with_reducible refine Kp.drewN ?_ _ | with_reducible refine Kp.alloc ?_ _ | ((with_reducible refine Kp.setCell ?_ ?_ _); rotate_left; (focus (first | omega | (simp; done) | (simp; omega)))) | with_reducible refine Kp.trans ?_ (by assumption))))))); clear hK K; (try simp only [Act.put, s1, s2, s3]))
    (refine takeH (i := 12) (oi := ?o26) (v := ?v26) ?h26 (by kernel_rfl) ?q26 (Or.inl ⟨?w26, ?y26⟩) (by assumption) ?r26; (case h26 => ((simp only [g1, g2, g3]); rfl)); (case q26 => exact fun _ _ _ h => h); (case w26 => rfl); (case y26 => (intro w' hSw; (try dsimp only at hSw); go_simp; (try with_reducible rfl))); (try simp only [Act.put, s1, s2, s3]))
    refine wpAnyH_done (by kernel_rfl) ?_ _
    rotate_left
    (go_simp; (try dsimp only); refine hK.out _ _ ?_ (fun hHd => ?_); (focus ((try dsimp only); (first | with_reducible assumption | with_reducible exact held_start _ | with_reducible exact held_next (by assumption) (by assumption) | with_reducible exact held_alloc (by assumption) _ | with_reducible exact held_drew (by assumption) | ((with_reducible refine held_kp ?_); (repeat (first | with_reducible assumption | with_reducible exact Kp.refl _ | with_reducible refine Kp.drew ?_ | with_reducible refine Kp.drewN ?_ _ | with_reducible refine Kp.alloc ?_ _ | ((with_reducible refine Kp.setCell ?_ ?_ _); rotate_left; (focus (first | omega | (simp; done) | (simp; omega)))) | with_reducible refine Kp.trans ?_ (by assumption))))))); clear hK K; (try simp only [Act.put, s1, s2, s3]))
    (refine wpAnyH_ready (rs := [1]) (by kernel_rfl) (by simp) ?_; refine AllReadyH.cons (o := ?o27) ?h27 (fun K hK => ?s27) AllReadyH.nil; (case h27 => (first | ((simp only [g1, g2, g3]); rfl) | rfl)); go_simp; (first | (go_at_call 43; go_must (refine (clone_any a l.length cap l _ (hl.kp hHd.2) h4).mono ?_); rintro e w3 ⟨v, rfl, hv, kk⟩; obtain ⟨a', cap', rfl, hs⟩ := hv.sl (fun x => Item.cells_length x); have ksz := (hHd.2.trans kk).size; have ksq := kk.size; (try simp at ksq))); (try dsimp only); refine hK.out _ _ ?_ (fun hHd => ?_); (focus ((try dsimp only); (first | with_reducible assumption | with_reducible exact held_next (by assumption) (by assumption) | with_reducible exact held_alloc (by assumption) _))); clear hK K; (try simp only [Act.put, s1, s2, s3]))
    (refine takeH (i := 10) (oi := ?o28) (v := ?v28) ?h28 (by kernel_rfl) ?q28 (Or.inl ⟨?w28, ?y28⟩) (by assumption) ?r28; (case h28 => ((simp only [g1, g2, g3]); rfl)); (case q28 => exact fun _ _ _ h => h); (case w28 => rfl); (case y28 => (intro w' hSw; (try dsimp only at hSw); go_simp; (try with_reducible rfl))); (try simp only [Act.put, s1, s2, s3]))
    (refine wpAnyH_ready (rs := [11]) (by kernel_rfl) (by simp) ?_; refine AllReadyH.cons (o := ?o29) ?h29 (fun K hK => ?s29) AllReadyH.nil; (case h29 => (first | ((simp only [g1, g2, g3]); rfl) | rfl)); go_simp; (try dsimp only); refine hK.out _ _ ?_ (fun hHd => ?_); (focus ((try dsimp only); (first | with_reducible assumption | with_reducible exact held_start _ | with_reducible exact held_next (by assumption) (by assumption) | with_reducible exact held_alloc (by assumption) _ | with_reducible exact held_drew (by assumption) | ((with_reducible refine held_kp ?_); (repeat (first | with_reducible assumption | with_reducible exact Kp.refl _ | with_reducible refine Kp.drew ?_ | with_reducible refine Kp.drewN ?_ _ | with_reducible refine Kp.alloc ?_ _ | ((with_reducible refine Kp.setCell ?_ ?_ _); rotate_left; (focus (first | omega | (simp; done) | (simp; omega)))) | with_reducible refine Kp.trans ?_ (by assumption))))))); clear hK K; (try simp only [Act.put, s1, s2, s3]))
    (refine takeH (i := 12) (oi := ?o30) (v := ?v30) ?h30 (by kernel_rfl) ?q30 (Or.inl ⟨?w30, ?y30⟩) (by assumption) ?r30; (case h30 => ((simp only [g1, g2, g3]); rfl)); (case q30 => exact fun _ _ _ h => h); (case w30 => rfl); (case y30 => (intro w' hSw; (try dsimp only at hSw); go_simp; (try with_reducible rfl))); (try simp only [Act.put, s1, s2, s3]))
    refine wpAnyH_done (by kernel_rfl) ?_ _
    rotate_left
    (go_simp; (try dsimp only); refine hK.out _ _ ?_ (fun hHd => ?_); (focus ((try dsimp only); (first | with_reducible assumption | with_reducible exact held_start _ | with_reducible exact held_next (by assumption) (by assumption) | with_reducible exact held_alloc (by assumption) _ | with_reducible exact held_drew (by assumption) | ((with_reducible refine held_kp ?_); (repeat (first | with_reducible assumption | with_reducible exact Kp.refl _ | with_reducible refine Kp.drew ?_ | with_reducible refine Kp.drewN ?_ _ | with_reducible refine Kp.alloc ?_ _ | ((with_reducible refine Kp.setCell ?_ ?_ _); rotate_left; (focus (first | omega | (simp; done) | (simp; omega)))) | with_reducible refine Kp.trans ?_ (by assumption))))))); clear hK K; (try simp only [Act.put, s1, s2, s3]))
    (refine wpAnyH_ready (rs := [1, 5]) (by kernel_rfl) (by simp) ?_; refine (AllReadyH.cons (o := ?o31) ?h31 (fun K hK => ?s31) (AllReadyH.cons (o := ?o32) ?h32 (fun K hK => ?s32) AllReadyH.nil)); (case h31 => (first | ((simp only [g1, g2, g3]); rfl) | rfl)); (case h32 => (first | ((simp only [g1, g2, g3]); rfl) | rfl)))
    (go_simp; (first | (go_at_call 43; go_must (refine (clone_any a l.length cap l _ (hl.kp hHd.2) h4).mono ?_); rintro e w3 ⟨v, rfl, hv, kk⟩; obtain ⟨a', cap', rfl, hs⟩ := hv.sl (fun x => Item.cells_length x); have ksz := (hHd.2.trans kk).size; have ksq := kk.size; (try simp at ksq))); (try dsimp only); refine hK.out _ _ ?_ (fun hHd => ?_); (focus ((try dsimp only); (first | with_reducible assumption | with_reducible exact held_next (by assumption) (by assumption) | with_reducible exact held_alloc (by assumption) _))); clear hK K; (try simp only [Act.put, s1, s2, s3]))
    (refine wpAnyH_ready (rs := [5]) (by kernel_rfl) (by simp) ?_; refine AllReadyH.cons (o := ?o33) ?h33 (fun K hK => ?s33) AllReadyH.nil; (case h33 => (first | ((simp only [g1, g2, g3]); rfl) | rfl)); go_simp; (try dsimp only); refine hK.out _ _ ?_ (fun hHd => ?_); (focus ((try dsimp only); (first | with_reducible assumption | with_reducible exact held_start _ | with_reducible exact held_next (by assumption) (by assumption) | with_reducible exact held_alloc (by assumption) _ | with_reducible exact held_drew (by assumption) | ((with_reducible refine held_kp ?_); (repeat (first | with_reducible assumption | with_reducible exact Kp.refl _ | with_reducible refine Kp.drew ?_ | with_reducible refine Kp.drewN ?_ _ | with_reducible refine Kp.alloc ?_ _ | ((with_reducible refine Kp.setCell ?_ ?_ _); rotate_left; (focus (first | omega | (simp; done) | (simp; omega)))) | with_reducible refine Kp.trans ?_ (by assumption))))))); clear hK K; (try simp only [Act.put, s1, s2, s3]))
    (refine takeH (i := 10) (oi := ?o34) (v := ?v34) ?h34 (by kernel_rfl) ?q34 (Or.inl ⟨?w34, ?y34⟩) (by assumption) ?r34; (case h34 => ((simp only [g1, g2, g3]); rfl)); (case q34 => exact fun _ _ _ h => h); (case w34 => rfl); (case y34 => (intro w' hSw; (try dsimp only at hSw); go_simp; (try with_reducible rfl))); (try simp only [Act.put, s1, s2, s3]))
    (refine wpAnyH_ready (rs := [11]) (by kernel_rfl) (by simp) ?_; refine AllReadyH.cons (o := ?o35) ?h35 (fun K hK => ?s35) AllReadyH.nil; (case h35 => (first | ((simp only [g1, g2, g3]); rfl) | rfl)); go_simp; (try dsimp only); refine hK.out _ _ ?_ (fun hHd => ?_); (focus ((try dsimp only); (first | with_reducible assumption | with_reducible exact held_start _ | with_reducible exact held_next (by assumption) (by assumption) | with_reducible exact held_alloc (by assumption) _ | with_reducible exact held_drew (by assumption) | ((with_reducible refine held_kp ?_); (repeat (first | with_reducible assumption | with_reducible exact Kp.refl _ | with_reducible refine Kp.drew ?_ | with_reducible refine Kp.drewN ?_ _ | with_reducible refine Kp.alloc ?_ _ | ((with_reducible refine Kp.setCell ?_ ?_ _); rotate_left; (focus (first | omega | (simp; done) | (simp; omega)))) | with_reducible refine Kp.trans ?_ (by assumption))))))); clear hK K; (try simp only [Act.put, s1, s2, s3]))
    (refine takeH (i := 12) (oi := ?o36) (v := ?v36) ?h36 (by kernel_rfl) ?q36 (Or.inl ⟨?w36, ?y36⟩) (by assumption) ?r36; (case h36 => ((simp only [g1, g2, g3]); rfl)); (case q36 => exact fun _ _ _ h => h); (case w36 => rfl); (case y36 => (intro w' hSw; (try dsimp only at hSw); go_simp; (try with_reducible rfl))); (try simp only [Act.put, s1, s2, s3]))
    refine wpAnyH_done (by kernel_rfl) ?_ _
    rotate_left
    (go_simp; (try dsimp only); refine hK.out _ _ ?_ (fun hHd => ?_); (focus ((try dsimp only); (first | with_reducible assumption | with_reducible exact held_start _ | with_reducible exact held_next (by assumption) (by assumption) | with_reducible exact held_alloc (by assumption) _ | with_reducible exact held_drew (by assumption) | ((with_reducible refine held_kp ?_); (repeat (first | with_reducible assumption | with_reducible exact Kp.refl _ | with_reducible refine Kp.drew ?_ | with_reducible refine Kp.drewN ?_ _ | with_reducible refine Kp.alloc ?_ _ | ((with_reducible refine Kp.setCell ?_ ?_ _); rotate_left; (focus (first | omega | (simp; done) | (simp; omega)))) | with_reducible refine Kp.trans ?_ (by assumption))))))); clear hK K; (try simp only [Act.put, s1, s2, s3]))
    (refine wpAnyH_ready (rs := [1]) (by kernel_rfl) (by simp) ?_; refine AllReadyH.cons (o := ?o37) ?h37 (fun K hK => ?s37) AllReadyH.nil; (case h37 => (first | ((simp only [g1, g2, g3]); rfl) | rfl)); go_simp; (first | (go_at_call 43; go_must (refine (clone_any a l.length cap l _ (hl.kp hHd.2) h4).mono ?_); rintro e w3 ⟨v, rfl, hv, kk⟩; obtain ⟨a', cap', rfl, hs⟩ := hv.sl (fun x => Item.cells_length x); have ksz := (hHd.2.trans kk).size; have ksq := kk.size; (try simp at ksq))); (try dsimp only); refine hK.out _ _ ?_ (fun hHd => ?_); (focus ((try dsimp only); (first | with_reducible assumption | with_reducible exact held_next (by assumption) (by assumption) | with_reducible exact held_alloc (by assumption) _))); clear hK K; (try simp only [Act.put, s1, s2, s3]))
    (refine takeH (i := 10) (oi := ?o38) (v := ?v38) ?h38 (by kernel_rfl) ?q38 (Or.inl ⟨?w38, ?y38⟩) (by assumption) ?r38; (case h38 => ((simp only [g1, g2, g3]); rfl)); (case q38 => exact fun _ _ _ h => h); (case w38 => rfl); (case y38 => (intro w' hSw; (try dsimp only at hSw); go_simp; (try with_reducible rfl))); (try simp only [Act.put, s1, s2, s3]))
    (refine wpAnyH_ready (rs := [11]) (by kernel_rfl) (by simp) ?_; refine AllReadyH.cons (o := ?o39) ?h39 (fun K hK => ?s39) AllReadyH.nil; (case h39 => (first | ((simp only [g1, g2, g3]); rfl) | rfl)); go_simp; (try dsimp only); refine hK.out _ _ ?_ (fun hHd => ?_); (focus ((try dsimp only); (first | with_reducible assumption | with_reducible exact held_start _ | with_reducible exact held_next (by assumption) (by assumption) | with_reducible exact held_alloc (by assumption) _ | with_reducible exact held_drew (by assumption) | ((with_reducible refine held_kp ?_); (repeat (first | with_reducible assumption | with_reducible exact Kp.refl _ | with_reducible refine Kp.drew ?_ | with_reducible refine Kp.drewN ?_ _ | with_reducible refine Kp.alloc ?_ _ | ((with_reducible refine Kp.setCell ?_ ?_ _); rotate_left; (focus (first | omega | (simp; done) | (simp; omega)))) | with_reducible refine Kp.trans ?_ (by assumption))))))); clear hK K; (try simp only [Act.put, s1, s2, s3]))
    (refine takeH (i := 12) (oi := ?o40) (v := ?v40) ?h40 (by kernel_rfl) ?q40 (Or.inl ⟨?w40, ?y40⟩) (by assumption) ?r40; (case h40 => ((simp only [g1, g2, g3]); rfl)); (case q40 => exact fun _ _ _ h => h); (case w40 => rfl); (case y40 => (intro w' hSw; (try dsimp only at hSw); go_simp; (try with_reducible rfl))); (try simp only [Act.put, s1, s2, s3]))
    refine wpAnyH_done (by kernel_rfl) ?_ _
    rotate_left
    all_goals
      go_wp2
      go_meet
      case rel =>
        refine ⟨_, a', cap', _, _, rfl, ⟨(by (repeat (first | with_reducible exact Blk.zero72 _ _ | with_reducible exact Blk.zero77 _ _ | with_reducible exact Blk.zero67 _ _ | with_reducible exact Blk.numNew _ _ _ | with_reducible refine Blk.num (f := fun _ => false) ?_ | with_reducible refine Blk.kp ?_ (by assumption) | ((with_reducible refine Blk.numAway ?_ _ _ _ ?_); (focus (first | with_reducible assumption | omega | (simp; done) | (simp; omega)))) | with_reducible assumption | ((with_reducible refine Blk.newL ?_ ?_); (focus (first | (simp; done) | omega)); rfl) | with_reducible refine Blk.drew ?_ | with_reducible refine Blk.drewN ?_ _ | with_reducible refine Blk.alloc ?_ _ | ((with_reducible refine Blk.other ?_ ?_ _); rotate_left; (focus (first | with_reducible assumption | omega | (simp; done) | (simp; omega))))))), hs.kp ((by (repeat (first | with_reducible assumption | with_reducible exact Kp.refl _ | with_reducible refine Kp.drew ?_ | with_reducible refine Kp.drewN ?_ _ | with_reducible refine Kp.alloc ?_ _ | ((with_reducible refine Kp.setCell ?_ ?_ _); rotate_left; (focus (first | omega | (simp; done) | (simp; omega)))) | with_reducible refine Kp.trans ?_ (by assumption)))) : Kp w3 _), (by (repeat (first | with_reducible exact Blk.zero72 _ _ | with_reducible exact Blk.zero77 _ _ | with_reducible exact Blk.zero67 _ _ | with_reducible exact Blk.numNew _ _ _ | with_reducible refine Blk.num (f := fun _ => false) ?_ | with_reducible refine Blk.kp ?_ (by assumption) | ((with_reducible refine Blk.numAway ?_ _ _ _ ?_); (focus (first | with_reducible assumption | omega | (simp; done) | (simp; omega)))) | with_reducible assumption | ((with_reducible refine Blk.newL ?_ ?_); (focus (first | (simp; done) | omega)); rfl) | with_reducible refine Blk.drew ?_ | with_reducible refine Blk.drewN ?_ _ | with_reducible refine Blk.alloc ?_ _ | ((with_reducible refine Blk.other ?_ ?_ _); rotate_left; (focus (first | with_reducible assumption | omega | (simp; done) | (simp; omega))))))), (by (repeat (first | with_reducible exact Blk.zero72 _ _ | with_reducible exact Blk.zero77 _ _ | with_reducible exact Blk.zero67 _ _ | with_reducible exact Blk.numNew _ _ _ | with_reducible refine Blk.num (f := fun _ => false) ?_ | with_reducible refine Blk.kp ?_ (by assumption) | ((with_reducible refine Blk.numAway ?_ _ _ _ ?_); (focus (first | with_reducible assumption | omega | (simp; done) | (simp; omega)))) | with_reducible assumption | ((with_reducible refine Blk.newL ?_ ?_); (focus (first | (simp; done) | omega)); rfl) | with_reducible refine Blk.drew ?_ | with_reducible refine Blk.drewN ?_ _ | with_reducible refine Blk.alloc ?_ _ | ((with_reducible refine Blk.other ?_ ?_ _); rotate_left; (focus (first | with_reducible assumption | omega | (simp; done) | (simp; omega)))))))⟩, ⟨?_, ?_, ?_, ?_⟩, ?_, ?_, ?_, (by (repeat (first | with_reducible assumption | with_reducible exact Kp.refl _ | with_reducible refine Kp.drew ?_ | with_reducible refine Kp.drewN ?_ _ | with_reducible refine Kp.alloc ?_ _ | ((with_reducible refine Kp.setCell ?_ ?_ _); rotate_left; (focus (first | omega | (simp; done) | (simp; omega)))) | with_reducible refine Kp.trans ?_ (by assumption))))⟩
        all_goals first
          | omega
          | (simp; done)
          | (simp; omega)
          | (intro b off h
             subst h
             have hb := hv.lt b rfl
             simp at hb
             omega)
  case rest =>
    obtain ⟨p, a', cap', ba, bb, rfl, hs, ⟨n1, n2, n3, n4⟩, hba, hbb, hp, hk⟩ := hcut
    clear hm1 hm2 hwr
    go_wp2
    go_loopw [24] (fun v24 wr => ∃ k : Nat, k ≤ l.length ∧ v24 = .int .i64 k ∧ SumsK wr p a' cap' ba bb l k ∧ Kp w wr ∧ Hid (fairL (l.take k) = true)) (fun v24 _ => l.length - (intOf v24).toNat)
    case atStart => exact ⟨0, by omega, rfl, hs, hk, Lib.hid rfl⟩
    case round =>
      clear hs hk
      obtain ⟨k, hkl, rfl, xs, xk, hf⟩ := hrel
      by_cases hlt : k < l.length
      · obtain ⟨x, hx⟩ : ∃ x, l[k]? = some x := ⟨l[k]'hlt, List.getElem?_eq_getElem _⟩
        have HX := Lib.hid hx; clear hx
        rcases hl.2.2.2 with e | ⟨b, off, rfl, hbw, hrow⟩
        · exact absurd (by rw [e]; rfl) (Nat.ne_of_gt (Nat.lt_of_le_of_lt (Nat.zero_le k) hlt))
        · obtain ⟨x0, x1, x2, x3, x4, x5, x6⟩ := x
          have hb := Nat.lt_of_lt_of_le hbw xk.size
          have hbne : b ≠ ba := Nat.ne_of_lt (Nat.lt_of_lt_of_le hbw hba)
          have hbne2 : b ≠ bb := Nat.ne_of_lt (Nat.lt_of_lt_of_le hbw hbb)
          have c0 : wr.cell? ⟨b, off + k * 7, none⟩ = some (.int .i64 x0) := (xk.cell (p := ⟨b, off + k * 7, none⟩) hbw).trans (hrow k _ HX.out 0 _ rfl)
          have c1 : wr.cell? ⟨b, off + k * 7 + 1, none⟩ = some (.int .i64 x1) := (xk.cell (p := ⟨b, off + k * 7 + 1, none⟩) hbw).trans (hrow k _ HX.out 1 _ rfl)
          have c2 : wr.cell? ⟨b, off + k * 7 + 2, none⟩ = some (.int .i64 x2) := (xk.cell (p := ⟨b, off + k * 7 + 2, none⟩) hbw).trans (hrow k _ HX.out 2 _ rfl)
          have c3 : wr.cell? ⟨b, off + k * 7 + 3, none⟩ = some (.int .i64 x3) := (xk.cell (p := ⟨b, off + k * 7 + 3, none⟩) hbw).trans (hrow k _ HX.out 3 _ rfl)
          have c4 : wr.cell? ⟨b, off + k * 7 + 4, none⟩ = some (.int .i64 x4) := (xk.cell (p := ⟨b, off + k * 7 + 4, none⟩) hbw).trans (hrow k _ HX.out 4 _ rfl)
          have c5 : wr.cell? ⟨b, off + k * 7 + 5, none⟩ = some (.int .i64 x5) := (xk.cell (p := ⟨b, off + k * 7 + 5, none⟩) hbw).trans (hrow k _ HX.out 5 _ rfl)
          have c6 : wr.cell? ⟨b, off + k * 7 + 6, none⟩ = some (.int .i64 x6) := (xk.cell (p := ⟨b, off + k * 7 + 6, none⟩) hbw).trans (hrow k _ HX.out 6 _ rfl)
          clear hrow
          have cT := itemTot_any ⟨x0, x1, x2, x3, x4, x5, x6⟩
          obtain ⟨⟨t0, t1, t2, t3, t4, t5⟩, ht⟩ : ∃ t, totI ⟨x0, x1, x2, x3, x4, x5, x6⟩ = t := ⟨_, rfl⟩
          rw [ht] at cT
          simp only [Item.v, Tot.v] at cT
          have cF := fair_any t0 t1 t2 t3 t4 t5
          obtain ⟨f, hff⟩ : ∃ f, fairT ⟨t0, t1, t2, t3, t4, t5⟩ = f := ⟨_, rfl⟩
          rw [hff] at cF
          go_wp2_with fail
          refine (cT _).mono ?_
          rintro e w2 ⟨rfl, k2⟩
          have d0 := (k2.cell (p := ⟨b, off + k * 7, none⟩) hb).trans c0
          have d1 := (k2.cell (p := ⟨b, off + k * 7 + 1, none⟩) hb).trans c1
          have ys := xs.kp k2
          have yk := xk.trans k2
          have hb2 := Nat.lt_of_lt_of_le hb k2.size
          clear c0 c1 c2 c3 c4 c5 c6 cT xs xk k2 hb
          go_wp2_with fail
          refine (cF _).mono ?_
          rintro e w3 ⟨rfl, k3⟩
          have k3' : Kp w2 w3 := ((by (repeat (first | with_reducible assumption | with_reducible exact Kp.refl _ | with_reducible refine Kp.drew ?_ | with_reducible refine Kp.drewN ?_ _ | with_reducible refine Kp.alloc ?_ _ | ((with_reducible refine Kp.setCell ?_ ?_ _); rotate_left; (focus (first | omega | (simp; done) | (simp; omega)))) | with_reducible refine Kp.trans ?_ (by assumption)))) : Kp w2 _).trans k3
          have c0 := (k3'.cell (p := ⟨b, off + k * 7, none⟩) hb2).trans d0
          have c1 := (k3'.cell (p := ⟨b, off + k * 7 + 1, none⟩) hb2).trans d1
          have xs := ys.kp k3'
          have xk := yk.trans k3'
          have xt : Blk w3 w2.heap.size [.int .i64 t0, .int .i64 t1, .int .i64 t2, .int .i64 t3, .int .i64 t4, .int .i64 t5] 31 := Blk.kp (by (repeat (first | with_reducible assumption | ((with_reducible refine Blk.newL ?_ ?_); (focus (first | (simp; done) | omega)); rfl) | with_reducible refine Blk.drew ?_ | with_reducible refine Blk.drewN ?_ _ | with_reducible refine Blk.alloc ?_ _ | ((with_reducible refine Blk.other ?_ ?_ _); rotate_left; (focus (first | with_reducible assumption | omega | (simp; done) | (simp; omega))))))) k3
          have hb3 := Nat.lt_of_lt_of_le hb2 k3'.size
          have n5 : ba < w2.heap.size := ys.ahead.lt
          have n6 : bb < w2.heap.size := ys.boxes.lt
          have n7 : p < w2.heap.size := ys.head.lt
          clear d0 d1 cF ys yk k3 k3'
          cases f with
          | false =>
            have hno := fairL_no HX.out (by rw [ht]; exact hff)
            clear hff
            go_wp2
            go_ret2
            exact ⟨(by (repeat (first | with_reducible assumption | with_reducible exact Kp.refl _ | with_reducible refine Kp.drew ?_ | with_reducible refine Kp.drewN ?_ _ | with_reducible refine Kp.alloc ?_ _ | ((with_reducible refine Kp.setCell ?_ ?_ _); rotate_left; (focus (first | omega | (simp; done) | (simp; omega)))) | with_reducible refine Kp.trans ?_ (by assumption)))), .inl ⟨hno, rfl⟩⟩
          | true =>
            have hq := psum_within (l.take k) hf.out
            have hlk : (l.take k).length ≤ 4096 := by rw [List.length_take]; omega
            have hsn := psum_snoc (l.take k) ⟨x0, x1, x2, x3, x4, x5, x6⟩
            rw [← take_snocI2 HX.out, ht] at hsn
            have a0 := xs.ahead.at (k * 6 + 0) (by omega)
            have a1 := xs.ahead.at (k * 6 + 1) (by omega)
            have a2 := xs.ahead.at (k * 6 + 2) (by omega)
            have a3 := xs.ahead.at (k * 6 + 3) (by omega)
            have a4 := xs.ahead.at (k * 6 + 4) (by omega)
            have a5 := xs.ahead.at (k * 6 + 5) (by omega)
            rw [aheadF_at l (Nat.le_refl k) (by decide)] at a0 a1 a2 a3 a4 a5
            obtain ⟨⟨s0, s1, s2, s3, s4, s5⟩, hs⟩ : ∃ s, psum (l.take k) = s := ⟨_, rfl⟩
            rw [hs] at hq hsn a0 a1 a2 a3 a4 a5
            simp only [comp, Nat.add_zero] at a0 a1 a2 a3 a4 a5
            have ha := add_exact hq (fairT_within hff) (by omega)
            have cA := totAdd_any s0 s1 s2 s3 s4 s5 t0 t1 t2 t3 t4 t5
            obtain ⟨u0, hu0⟩ : ∃ u, s0 + t0 = u := ⟨_, rfl⟩
            obtain ⟨u1, hu1⟩ : ∃ u, s1 + t1 = u := ⟨_, rfl⟩
            obtain ⟨u2', hu2⟩ : ∃ u, s2 + t2 = u := ⟨_, rfl⟩
            obtain ⟨u3', hu3⟩ : ∃ u, s3 + t3 = u := ⟨_, rfl⟩
            obtain ⟨u4, hu4⟩ : ∃ u, s4 + t4 = u := ⟨_, rfl⟩
            obtain ⟨u5, hu5⟩ : ∃ u, s5 + t5 = u := ⟨_, rfl⟩
            have hU : Tot.plus ⟨s0, s1, s2, s3, s4, s5⟩ ⟨t0, t1, t2, t3, t4, t5⟩ = ⟨u0, u1, u2', u3', u4, u5⟩ := by unfold Tot.plus; simp only [hu0, hu1, hu2, hu3, hu4, hu5]
            rw [hU] at ha hsn
            rw [ha.1, ha.2] at cA
            have hA : ∀ w, Calls Try.prog 46 #[.agg #[.int .i64 s0, .int .i64 s1, .int .i64 s2, .int .i64 s3, .int .i64 s4, .int .i64 s5], .agg #[.int .i64 t0, .int .i64 t1, .int .i64 t2, .int .i64 t3, .int .i64 t4, .int .i64 t5]] w fun e w' => e = .returned (.tuple #[.agg #[.int .i64 u0, .int .i64 u1, .int .i64 (u2'), .int .i64 (u3'), .int .i64 u4, .int .i64 u5], .bool true]) ∧ Kp w w' := fun w => cA w (within_ok hq (by omega)) (within_ok (fairT_within hff) (by decide))
            have HA := Lib.hid hA
            have HSN := Lib.hid hsn
            have HPS := Lib.hid hs
            have HFS := Lib.hid (fairL_snoc HX.out (by rw [ht]; exact hff) hf.out)
            clear hq hsn hs ha cA hA hU hu0 hu1 hu2 hu3 hu4 hu5 hff hlk hf
            have p0 := xs.head.cell 0 rfl
            have p1 := xs.head.cell 1 rfl
            have p2 := xs.head.cell 2 rfl
            have q0 := xt.cell 0 rfl; have q1 := xt.cell 1 rfl; have q2 := xt.cell 2 rfl; have q3 := xt.cell 3 rfl; have q4 := xt.cell 4 rfl; have q5 := xt.cell 5 rfl
            go_wp2
            go_cut [35] (fun _ wd => Blk wd p [.slice a' l.length cap', .slice (some ⟨ba, 0, none⟩) (l.length + 1) (l.length + 1), .slice (some ⟨bb, 0, none⟩) (l.length + 1) (l.length + 1)] 81 ∧ SlOk wd 7 Item.cells a' l.length cap' l ∧ Blk wd ba (intsF ((l.length + 1) * 6) (aheadF l (k + 1))) 31 ∧ Blk wd bb (intsF (l.length + 1) (boxF l k)) 28 ∧ Kp w wd ∧ wd.cell? ⟨b, off + k * 7, none⟩ = some (.int .i64 x0) ∧ wd.cell? ⟨b, off + k * 7 + 1, none⟩ = some (.int .i64 x1))
            case first =>
              have hn6 : ba ≠ w2.heap.size := Nat.ne_of_lt n5
              have i1 : (k : Int) < (l.length : Int) + 1 := by omega
              have i2 : (k : Int) + 1 < (l.length : Int) + 1 := by omega
              have i3 : (k : Int) < (l.length : Int) := by omega
              have i4 : (0 : Int) ≤ (k : Int) + 1 := by omega
              have HM6 : Hid ((k + 1) * 6 + 6 ≤ (l.length + 1) * 6) := Lib.hid (by omega)
              have hkw : IntKind.i64.wrap ((k : Int) + 1) = (k : Int) + 1 := by rw [IntKind.wrap_i64]; omega
              (refine wp_region_held_drew (S := (fun w' => (w'.cell? ⟨p, 1, none⟩ = some (.slice (some ⟨ba, 0, none⟩) (l.length + 1) (l.length + 1)) ∧ (w'.cell? ⟨ba, k * 6, none⟩ = some (.int .i64 s0) ∧ w'.cell? ⟨ba, k * 6 + 1, none⟩ = some (.int .i64 s1) ∧ w'.cell? ⟨ba, k * 6 + 2, none⟩ = some (.int .i64 s2) ∧ w'.cell? ⟨ba, k * 6 + 3, none⟩ = some (.int .i64 s3) ∧ w'.cell? ⟨ba, k * 6 + 4, none⟩ = some (.int .i64 s4) ∧ w'.cell? ⟨ba, k * 6 + 5, none⟩ = some (.int .i64 s5)) ∧ (w'.cell? ⟨w2.heap.size, 0, none⟩ = some (.int .i64 t0) ∧ w'.cell? ⟨w2.heap.size, 1, none⟩ = some (.int .i64 t1) ∧ w'.cell? ⟨w2.heap.size, 2, none⟩ = some (.int .i64 t2) ∧ w'.cell? ⟨w2.heap.size, 3, none⟩ = some (.int .i64 t3) ∧ w'.cell? ⟨w2.heap.size, 4, none⟩ = some (.int .i64 t4) ∧ w'.cell? ⟨w2.heap.size, 5, none⟩ = some (.int .i64 t5))) ∧ Hid (Mid w w' p a' cap' ba bb l k w2.heap.size b off ⟨s0, s1, s2, s3, s4, s5⟩ ⟨t0, t1, t2, t3, t4, t5⟩ x0 x1))) (by kernel_rfl) ?_ (fun hHd => ?_); (focus ((try dsimp only); exact Mid.S (Mid.go ⟨xs.head, xs.items, xs.boxes, xt, xk, hb3, c0, c1, HPS.out, hlt, _, .inl rfl, xs.ahead⟩ ((by (repeat (first | with_reducible assumption | with_reducible exact Kp.refl _ | with_reducible refine Kp.drew ?_ | with_reducible refine Kp.drewN ?_ _ | with_reducible refine Kp.alloc ?_ _ | ((with_reducible refine Kp.setCell ?_ ?_ _); rotate_left; (focus (first | omega | (simp; done) | (simp; omega)))) | with_reducible refine Kp.trans ?_ (by assumption)))) : Kp w3 _)))))
              (refine takeH (i := 0) (oi := ?o41) (v := ?v41) ?h41 (by kernel_rfl) ?q41 (Or.inl ⟨?w41, ?y41⟩) (by assumption) ?r41; (case h41 => ((simp only [g1, g3]); rfl)); (case q41 => exact fun _ _ _ h => h); (case w41 => rfl); (case y41 => (intro w' hSw; (try dsimp only at hSw); go_simp; (try with_reducible rfl))); (try simp only [Act.put, s1, s2, s3]))
              (refine takeH (i := 1) (oi := ?o42) (v := ?v42) ?h42 (by kernel_rfl) ?q42 (Or.inl ⟨?w42, ?y42⟩) (by assumption) ?r42; (case h42 => ((simp only [g1, g2, g3]); rfl)); (case q42 => exact fun _ _ _ h => h); (case w42 => rfl); (case y42 => (intro w' hSw; (try dsimp only at hSw); go_simp; (try with_reducible rfl))); (try simp only [Act.put, s1, s2, s3]))
              (refine takeH (i := 2) (oi := ?o43) (v := ?v43) ?h43 (by kernel_rfl) ?q43 (Or.inl ⟨?w43, ?y43⟩) (by assumption) ?r43; (case h43 => ((simp only [g1, g2, g3]); rfl)); (case q43 => exact fun _ _ _ h => h); (case w43 => rfl); (case y43 => (intro w' hSw; (try dsimp only at hSw); go_simp; (try with_reducible rfl))); (try simp only [Act.put, s1, s2, s3]))
              (refine takeH (i := 3) (oi := ?o44) (v := ?v44) ?h44 (by kernel_rfl) ?q44 (Or.inl ⟨?w44, ?y44⟩) (by assumption) ?r44; (case h44 => ((simp only [g1, g2, g3]); rfl)); (case q44 => exact fun _ _ _ h => h); (case w44 => rfl); (case y44 => (intro w' hSw; (try dsimp only at hSw); go_simp; (try with_reducible rfl))); (try simp only [Act.put, s1, s2, s3]))
              (refine takeH (i := 4) (oi := ?o45) (v := ?v45) ?h45 (by kernel_rfl) ?q45 (Or.inl ⟨?w45, ?y45⟩) (by assumption) ?r45; (case h45 => ((simp only [g1, g2, g3]); rfl)); (case q45 => exact fun _ _ _ h => h); (case w45 => rfl); (case y45 => (intro w' hSw; (try dsimp only at hSw); go_simp; (try with_reducible rfl))); (try simp only [Act.put, s1, s2, s3]))
              (refine takeH (i := 5) (oi := ?o46) (v := ?v46) ?h46 (by kernel_rfl) ?q46 (Or.inl ⟨?w46, ?y46⟩) (by assumption) ?r46; (case h46 => ((simp only [g1, g2, g3]); rfl)); (case q46 => exact fun _ _ _ h => h); (case w46 => rfl); (case y46 => (intro w' hSw; (try dsimp only at hSw); go_simp; (try with_reducible rfl))); (try simp only [Act.put, s1, s2, s3]))
              (refine takeH (i := 6) (oi := ?o47) (v := ?v47) ?h47 (by kernel_rfl) ?q47 (Or.inl ⟨?w47, ?y47⟩) (by assumption) ?r47; (case h47 => ((simp only [g1, g2, g3]); rfl)); (case q47 => exact fun _ _ _ h => h); (case w47 => rfl); (case y47 => (intro w' hSw; (try dsimp only at hSw); go_simp; (try with_reducible rfl))); (try simp only [Act.put, s1, s2, s3]))
              (refine takeH (i := 7) (oi := ?o48) (v := ?v48) ?h48 (by kernel_rfl) ?q48 (Or.inl ⟨?w48, ?y48⟩) (by assumption) ?r48; (case h48 => ((simp only [g1, g2, g3]); rfl)); (case q48 => exact fun _ _ _ h => h); (case w48 => rfl); (case y48 => (intro w' hSw; (try dsimp only at hSw); go_simp; (try with_reducible rfl))); (try simp only [Act.put, s1, s2, s3]))
              (refine takeH (i := 8) (oi := ?o49) (v := ?v49) ?h49 (by kernel_rfl) ?q49 (Or.inl ⟨?w49, ?y49⟩) (by assumption) ?r49; (case h49 => ((simp only [g1, g2, g3]); rfl)); (case q49 => exact fun _ _ _ h => h); (case w49 => rfl); (case y49 => (intro w' hSw; (try dsimp only at hSw); go_simp; (try with_reducible rfl))); (try simp only [Act.put, s1, s2, s3]))
              (refine takeH (i := 9) (oi := ?o50) (v := ?v50) ?h50 (by kernel_rfl) ?q50 (Or.inl ⟨?w50, ?y50⟩) (by assumption) ?r50; (case h50 => ((simp only [g1, g2, g3]); rfl)); (case q50 => exact fun _ _ _ h => h); (case w50 => rfl); (case y50 => (intro w' hSw; (try dsimp only at hSw); go_simp; (try with_reducible rfl))); (try simp only [Act.put, s1, s2, s3]))
              (refine takeH (i := 10) (oi := ?o51) (v := ?v51) ?h51 (by kernel_rfl) ?q51 (Or.inl ⟨?w51, ?y51⟩) (by assumption) ?r51; (case h51 => ((simp only [g1, g2, g3]); rfl)); (case q51 => exact fun _ _ _ h => h); (case w51 => rfl); (case y51 => (intro w' hSw; (try dsimp only at hSw); go_simp; (try with_reducible rfl))); (try simp only [Act.put, s1, s2, s3]))
              (refine takeH (i := 11) (oi := ?o52) (v := ?v52) ?h52 (by kernel_rfl) ?q52 (Or.inl ⟨?w52, ?y52⟩) (by assumption) ?r52; (case h52 => ((simp only [g1, g2, g3]); rfl)); (case q52 => exact fun _ _ _ h => h); (case w52 => rfl); (case y52 => (intro w' hSw; (try dsimp only at hSw); go_simp; (try with_reducible rfl))); (try simp only [Act.put, s1, s2, s3]))
              (refine takeH (i := 12) (oi := ?o53) (v := ?v53) ?h53 (by kernel_rfl) ?q53 (Or.inl ⟨?w53, ?y53⟩) (by assumption) ?r53; (case h53 => ((simp only [g1, g2, g3]); rfl)); (case q53 => exact fun _ _ _ h => h); (case w53 => rfl); (case y53 => (intro w' hSw; (try dsimp only at hSw); go_simp; (try with_reducible rfl))); (try simp only [Act.put, s1, s2, s3]))
              (refine takeH (i := 13) (oi := ?o54) (v := ?v54) ?h54 (by kernel_rfl) ?q54 (Or.inl ⟨?w54, ?y54⟩) (by assumption) ?r54; (case h54 => ((simp only [g1, g2, g3]); rfl)); (case q54 => exact fun _ _ _ h => h); (case w54 => rfl); (case y54 => (intro w' hSw; (try dsimp only at hSw); go_simp; (try with_reducible rfl))); (try simp only [Act.put, s1, s2, s3]))
              (refine wpAnyH_ready (rs := [14]) (by kernel_rfl) (by simp) ?_; refine AllReadyH.cons (o := ?o55) ?h55 (fun K hK => ?s55) AllReadyH.nil; (case h55 => (first | ((simp only [g1, g2, g3]); rfl) | rfl)); go_simp; (first | (go_at_call 46; go_must (refine (HA.out _).mono ?_); rintro e w5 ⟨rfl, k5⟩)); (try dsimp only); refine hK.out _ _ ?_ (fun hHd => ?_); (focus ((try dsimp only); exact Mid.S (hHd.2.out.go k5))); clear hK K; (try simp only [Act.put, s1, s2, s3]))
              (refine takeH (i := 15) (oi := ?o56) (v := ?v56) ?h56 (by kernel_rfl) ?q56 (Or.inl ⟨?w56, ?y56⟩) (by assumption) ?r56; (case h56 => ((simp only [g1, g2, g3]); rfl)); (case q56 => exact fun _ _ _ h => h); (case w56 => rfl); (case y56 => (intro w' hSw; (try dsimp only at hSw); go_simp; (try with_reducible rfl))); (try simp only [Act.put, s1, s2, s3]))
              (refine takeH (i := 16) (oi := ?o57) (v := ?v57) ?h57 (by kernel_rfl) ?q57 (Or.inl ⟨?w57, ?y57⟩) (by assumption) ?r57; (case h57 => ((simp only [g1, g2, g3]); rfl)); (case q57 => exact fun _ _ _ h => h); (case w57 => rfl); (case y57 => (intro w' hSw; (try dsimp only at hSw); go_simp; (try with_reducible rfl))); (try simp only [Act.put, s1, s2, s3]))
              (refine takeH (i := 17) (oi := ?o58) (v := ?v58) ?h58 (by kernel_rfl) ?q58 (Or.inl ⟨?w58, ?y58⟩) (by assumption) ?r58; (case h58 => ((simp only [g1, g2, g3]); rfl)); (case q58 => exact fun _ _ _ h => h); (case w58 => rfl); (case y58 => (intro w' hSw; (try dsimp only at hSw); go_simp; (try with_reducible rfl))); (try simp only [Act.put, s1, s2, s3]))
              (refine takeH (i := 18) (oi := ?o59) (v := ?v59) ?h59 (by kernel_rfl) ?q59 (Or.inl ⟨?w59, ?y59⟩) (by assumption) ?r59; (case h59 => ((simp only [g1, g2, g3]); rfl)); (case q59 => exact fun _ _ _ h => h); (case w59 => rfl); (case y59 => (intro w' hSw; (try dsimp only at hSw); go_simp; (try with_reducible rfl))); (try simp only [Act.put, s1, s2, s3]))
              (refine wpAnyH_ready (rs := [19]) (by kernel_rfl) (by simp) ?_; refine AllReadyH.cons (o := ?o60) ?h60 (fun K hK => ?s60) AllReadyH.nil; (case h60 => (first | ((simp only [g1, g2, g3]); rfl) | rfl)); rw [if_pos (by rfl)]; refine wpStMid hHd.2.out HSN.out n1 n3 n4 hn6 hbne hba (.tmp 53) (.tmp 51) ?ho61 ?hx61 ?hy61 ?_; (case ho61 => rfl); (case hx61 => rfl); (case hy61 => rfl); intro w6 M6 hB6; refine hK.out _ _ ?_ (fun hHd => ?_); (focus ((try dsimp only); exact Mid.S M6)); clear hK K; (try simp only [Act.put]))
              refine wpAnyH_done (by kernel_rfl) ?_ _
              all_goals
                go_wp2
                go_meet
                case rel => exact ⟨M6.head, M6.items, hB6, M6.boxes, M6.kp, M6.c0, M6.c1⟩
            case rest =>
              clear xs xt xk a0 a1 a2 a3 a4 a5 p0 p1 p2 q0 q1 q2 q3 q4 q5 HA c0 c1 hb3
              obtain ⟨yh, yi, ya, yb, yk, c0, c1⟩ := hcut
              have hbw1 := bsum_within (l.take k) (fairL_of HFS.out)
              have hbw2 := bsum_within (l.take (k + 1)) HFS.out
              have hbs := bsum_snoc (l.take k) ⟨x0, x1, x2, x3, x4, x5, x6⟩
              rw [← take_snocI2 HX.out] at hbs
              have hll : (l.take (k + 1)).length ≤ 4096 := by rw [List.length_take]; omega
              have hll2 : (l.take k).length ≤ 4096 := by rw [List.length_take]; omega
              have z2 := yh.cell 2 rfl
              have g0 := yb.at k (by omega)
              rw [boxF_at l (Nat.le_refl k)] at g0
              have g1 := yb.at (k + 1) (by omega)
              have fr := yb.free (k + 1)
              obtain ⟨m, hm⟩ : ∃ m, bsum (l.take k) = m := ⟨_, rfl⟩
              rw [hm] at hbs hbw1 g0
              have i1 : (k : Int) < (l.length : Int) + 1 := by omega
              have i2 : (k : Int) + 1 < (l.length : Int) + 1 := by omega
              have i3 : (k : Int) < (l.length : Int) := by omega
              have i4 : (0 : Int) ≤ (k : Int) + 1 := by omega
              have HB1 := Lib.hid hbw1; have HB2 := Lib.hid hbw2; have HBS := Lib.hid hbs; have HL := Lib.hid hll; have HL2 := Lib.hid hll2
              clear hbw1 hbw2 hbs hll hll2 hm
              have hkw : IntKind.i64.wrap ((k : Int) + 1) = (k : Int) + 1 := by rw [IntKind.wrap_i64]; omega
              go_wp2
              go_cut [54] (fun _ wd => Lat w wd p a' cap' ba bb l k b off (upd (boxF l k) (k + 1) m) x0 x1)
              case first =>
                have L0 : Lat w wc p a' cap' ba bb l k b off (boxF l k) x0 x1 := ⟨yh, yi, ya, yb, yk, c0, c1⟩
                have L1 := L0.put n2 n3 n4 hbne2 hbb (k + 1) m
                clear L0
                go_region_with (fail)
                all_goals
                  go_wp2
                  go_meet
                  case rel => exact L1
              case rest =>
                clear yh yi ya yb yk c0 c1 z2 g0 g1 fr
                have L := hcut
                have c0 := L.c0
                have c1 := L.c1
                have z2 := L.head.cell 2 rfl
                have g1 := L.boxes.at (k + 1) (by omega)
                rw [show upd (boxF l k) (k + 1) m (k + 1) = m by unfold upd; rw [if_pos rfl]] at g1
                have fr := L.boxes.free (k + 1)
                have HL3 := Lib.hid L
                clear hcut L
                by_cases hx0 : x0 = 1
                · subst hx0
                  have hs1 : bsum (l.take (k + 1)) = m + x1 := by rw [HBS.out]; simp [boxI]
                  have hin : -9223372036854775808 ≤ m + x1 ∧ m + x1 ≤ 9223372036854775807 := by
                    have h1 := HB2.out; have h2 := HL.out
                    rw [hs1] at h1; omega
                  have hwm : IntKind.i64.wrap (m + x1) = m + x1 := by rw [IntKind.wrap_i64]; omega
                  have L1 := HL3.out.put n2 n3 n4 hbne2 hbb (k + 1) (m + x1)
                  rw [upd_upd, boxF_succ l k _ hs1] at L1
                  have H1 := Lib.hid L1
                  clear L1 HB1 HB2 HBS HL HL2 hs1 hin
                  go_wp2
                  go_region_with (fail)
                  all_goals
                    go_wp2
                    go_roundw
                    case rel => exact ⟨k + 1, by omega, by go_num, ⟨H1.out.head, H1.out.items, H1.out.ahead, H1.out.boxes⟩, H1.out.kp, HFS⟩
                    case measure => simp [intOf]; omega
                · have h01 : (x0 == 1) = false := beq_eq_false_iff_ne.2 hx0
                  have hs1 : bsum (l.take (k + 1)) = m := by rw [HBS.out]; simp [boxI, hx0]
                  have L1 := HL3.out
                  rw [boxF_succ l k _ hs1] at L1
                  have H1 := Lib.hid L1
                  clear L1 HB1 HB2 HBS HL HL2 hs1 hkw
                  go_wp2
                  go_roundw
                  case rel => exact ⟨k + 1, by omega, by go_num, ⟨H1.out.head, H1.out.items, H1.out.ahead, H1.out.boxes⟩, H1.out.kp, HFS⟩
                  case measure => simp [intOf]; omega
      · obtain rfl : k = l.length := by omega
        have hfa : fairL l = true := by have := hf.out; rwa [List.take_length] at this
        have HFA := Lib.hid hfa
        clear hfa hf
        go_wp2
        go_ret2
        exact ⟨xk, .inr ⟨HFA.out, p, rfl, a', cap', ba, bb, xs⟩⟩
end Go.Proofs.Yteipfamaclildaa
