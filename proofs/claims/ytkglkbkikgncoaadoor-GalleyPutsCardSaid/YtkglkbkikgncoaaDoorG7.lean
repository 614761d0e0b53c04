/- A galley: the thing of a text. -/
import Derived.Test.YtkglkbkikgncoaaDoorG6

namespace Go.Proofs.YtkglkbkikgncoaaDoor

open Go.ChangeShapes Go.WideShapes Go.ChangeAt Go.RowKit Go.Shelf

/-- Five cells laid into a block. -/
def lay5 (w : World) (P : Nat) (p : Put) : World := ((((w.setCell ⟨P, 0, none⟩ (.int .i64 p.k)).setCell ⟨P, 1, none⟩ (.int .i64 p.n)).setCell ⟨P, 2, none⟩ (.int .i64 p.l)).setCell ⟨P, 3, none⟩ (.int .i64 p.y)).setCell ⟨P, 4, none⟩ (.int .i64 p.h)
theorem blk_lay5 {w : World} {P : Nat} {c0 c1 c2 c3 c4 : Value} {t : TypeId} (h : Blk w P [c0, c1, c2, c3, c4] t) (p : Put) : Blk (lay5 w P p) P p.cells t := ((((h.set 0 (.int .i64 p.k)).set 1 (.int .i64 p.n)).set 2 (.int .i64 p.l)).set 3 (.int .i64 p.y)).set 4 (.int .i64 p.h)
theorem blk_lay5o {w : World} {P b : Nat} {cs : List Value} {t : TypeId} (h : Blk w b cs t) (hb : b ≠ P) (p : Put) : Blk (lay5 w P p) b cs t := ((((h.other hb _).other hb _).other hb _).other hb _).other hb _
theorem kp_lay5 {W w : World} (h : Kp W w) {P : Nat} (hP : W.heap.size ≤ P) (p : Put) : Kp W (lay5 w P p) := ((((h.setCell hP _).setCell hP _).setCell hP _).setCell hP _).setCell hP _
def PutQ (w : World) (P : Nat) (s : List UInt8) (e : Ending) (w2 : World) : Prop :=
  (∃ p w1, putP s = some p ∧ e = .returned (.tuple #[]) ∧ Kp w w1 ∧ w2 = lay5 w1 P p) ∨ (putP s = none ∧ e = .panicked gone ∧ Kp w w2)
set_option maxRecDepth 100000 in
set_option maxHeartbeats 4000000 in
theorem putClosure (S P : Nat) (s : List UInt8) (w : World) (he : Env w) (hs : s.length ≤ 10000) (hS : Blk w S [sv s] 9) (hP : Blk w P [.int .i64 0, .int .i64 0, .int .i64 0, .int .i64 0, .int .i64 0] 33) :
    Calls Tryd.prog 24 #[.pointer (some ⟨S, 0, none⟩), .pointer (some ⟨P, 0, none⟩)] w (PutQ w P s) := by
  have c0 := hS.cell 0 rfl
  have HP := Lib.hid hP
  have CP := Lib.hid (parse_any s hs w he)
  clear he hS hP
  go_enter Tryd.func24, Tryd.ntmps24
  go_wp2_with fail
  refine CP.out.mono ?_
  rintro e w1 ⟨k1, ⟨wd, ns, a, c, hp, rfl, hsl, hn⟩ | ⟨hp, rfl⟩⟩
  · have CPU := Lib.hid (putc_any wd ns a c w1 hsl)
    have HPS : Hid (putP s = putOf wd ns) := Lib.hid (by unfold putP; rw [hp])
    clear hp hsl
    go_wp2_with fail
    refine CPU.out.mono ?_
    rintro e w2 ⟨k2, ⟨p, ho, rfl⟩ | ⟨ho, rfl⟩⟩
    · have kw2 := k1.trans k2
      have hb := HP.out.kp kw2
      have f0 := hb.free 0; have f1 := hb.free 1; have f2 := hb.free 2; have f3 := hb.free 3; have f4 := hb.free 4
      have z0 := hb.cell 0 rfl; have z1 := hb.cell 1 rfl; have z2 := hb.cell 2 rfl; have z3 := hb.cell 3 rfl; have z4 := hb.cell 4 rfl
      obtain ⟨pk, pn, pl, py, ph⟩ := p
      unfold Put.cells
      go_wp2_with fail
      refine bodyPost_ret (results_none rfl _ _ _) rfl ?_
      exact .inl ⟨_, w2, HPS.out.trans ho, rfl, kw2, rfl⟩
    · go_wp2_with fail
      exact ⟨rfl, .inr ⟨HPS.out.trans ho, rfl, k1.trans k2⟩⟩
  · have hps : putP s = none := by unfold putP; rw [hp]
    go_wp2_with fail
    exact ⟨rfl, .inr ⟨hps, rfl, k1⟩⟩
def zeroP : Value := .agg #[.int .i64 0, .int .i64 0, .int .i64 0, .int .i64 0, .int .i64 0]
theorem putQ_ends {w : World} {P : Nat} {s : List UInt8} (hP : P < w.heap.size) (e : Ending) (w2 : World) (h : PutQ (w.alloc (.cells #[.bool false] 4)) P s e w2) : (e = .returned (.tuple #[]) ∨ e = .panicked gone) ∧ Blk w2 w.heap.size [.bool false] 4 := by
  have hb : Blk (w.alloc (.cells #[.bool false] 4)) w.heap.size [.bool false] 4 := Blk.new _ _ _
  rcases h with ⟨p, w1, _, rfl, k, rfl⟩ | ⟨_, rfl, k⟩
  · exact ⟨.inl rfl, blk_lay5o (hb.kp k) (by omega) p⟩
  · exact ⟨.inr rfl, hb.kp k⟩
set_option maxRecDepth 100000 in
set_option maxHeartbeats 4000000 in
theorem galleyPut_any (s : List UInt8) (hs : s.length ≤ 10000) (w : World) (he : Env w) :
    Calls Tryd.prog 10 #[sv s] w fun e w' => Kp w w' ∧ ((∃ p, putP s = some p ∧ e = .returned (.tuple #[.agg p.cells.toArray, .bool true])) ∨ (putP s = none ∧ e = .returned (.tuple #[zeroP, .bool false]))) := by
  have hmf : ∀ (fn : Fn) (first cap : Array Value) (w : World), (Instr.makeFunc fn first cap).run Tryd.prog w = .ok (.func fn first cap) w := fun _ _ _ _ => rfl
  have HE := Lib.hid he
  clear he
  go_enter Tryd.func10, Tryd.ntmps10
  go_wp2_with fail
  refine Calls.mono (caught_put _ _ (PutQ _ (w.heap.size + 1 + 1) s) (putQ_ends ?lt) (putClosure w.heap.size (w.heap.size + 1 + 1) s _ ?env hs ?bS ?bP)) ?_
  case lt => simp
  case env => exact HE.out.kp (by (repeat (first | with_reducible assumption | with_reducible exact Kp.refl _ | with_reducible refine Kp.drew ?_ | with_reducible refine Kp.drewN ?_ _ | with_reducible refine Kp.alloc ?_ _ | ((with_reducible refine Kp.setCell ?_ ?_ _); rotate_left; (focus (first | omega | (simp; done) | (simp; omega)))) | with_reducible refine Kp.trans ?_ (by assumption))))
  case bS => exact (by (repeat (first | with_reducible assumption | ((with_reducible refine Blk.newL ?_ ?_); (focus (first | (simp; done) | omega)); rfl) | with_reducible refine Blk.drew ?_ | with_reducible refine Blk.drewN ?_ _ | with_reducible refine Blk.alloc ?_ _ | ((with_reducible refine Blk.other ?_ ?_ _); rotate_left; (focus (first | with_reducible assumption | omega | (simp; done) | (simp; omega)))))))
  case bP => exact (by (repeat (first | with_reducible assumption | ((with_reducible refine Blk.newL ?_ ?_); (focus (first | (simp; done) | omega)); rfl) | with_reducible refine Blk.drew ?_ | with_reducible refine Blk.drewN ?_ _ | with_reducible refine Blk.alloc ?_ _ | ((with_reducible refine Blk.other ?_ ?_ _); rotate_left; (focus (first | with_reducible assumption | omega | (simp; done) | (simp; omega)))))))
  rintro e w1 ⟨e2, w2, hq, hh⟩
  have br0 : Blk (((w.alloc (.cells #[sv s] 9)).alloc (.cells #[.int .i64 0, .int .i64 0, .int .i64 0, .int .i64 0, .int .i64 0] 33)).alloc (.cells #[.int .i64 0, .int .i64 0, .int .i64 0, .int .i64 0, .int .i64 0] 33)) (w.heap.size + 1) [.int .i64 0, .int .i64 0, .int .i64 0, .int .i64 0, .int .i64 0] 33 := (by (repeat (first | with_reducible assumption | ((with_reducible refine Blk.newL ?_ ?_); (focus (first | (simp; done) | omega)); rfl) | with_reducible refine Blk.drew ?_ | with_reducible refine Blk.drewN ?_ _ | with_reducible refine Blk.alloc ?_ _ | ((with_reducible refine Blk.other ?_ ?_ _); rotate_left; (focus (first | with_reducible assumption | omega | (simp; done) | (simp; omega)))))))
  have bp0 : Blk (((w.alloc (.cells #[sv s] 9)).alloc (.cells #[.int .i64 0, .int .i64 0, .int .i64 0, .int .i64 0, .int .i64 0] 33)).alloc (.cells #[.int .i64 0, .int .i64 0, .int .i64 0, .int .i64 0, .int .i64 0] 33)) (w.heap.size + 1 + 1) [.int .i64 0, .int .i64 0, .int .i64 0, .int .i64 0, .int .i64 0] 33 := (by (repeat (first | with_reducible assumption | ((with_reducible refine Blk.newL ?_ ?_); (focus (first | (simp; done) | omega)); rfl) | with_reducible refine Blk.drew ?_ | with_reducible refine Blk.drewN ?_ _ | with_reducible refine Blk.alloc ?_ _ | ((with_reducible refine Blk.other ?_ ?_ _); rotate_left; (focus (first | with_reducible assumption | omega | (simp; done) | (simp; omega)))))))
  have hsz : (((w.alloc (.cells #[sv s] 9)).alloc (.cells #[.int .i64 0, .int .i64 0, .int .i64 0, .int .i64 0, .int .i64 0] 33)).alloc (.cells #[.int .i64 0, .int .i64 0, .int .i64 0, .int .i64 0, .int .i64 0] 33)).heap.size = w.heap.size + 1 + 1 + 1 := by simp
  have kw0 : Kp w (((w.alloc (.cells #[sv s] 9)).alloc (.cells #[.int .i64 0, .int .i64 0, .int .i64 0, .int .i64 0, .int .i64 0] 33)).alloc (.cells #[.int .i64 0, .int .i64 0, .int .i64 0, .int .i64 0, .int .i64 0] 33)) := (by (repeat (first | with_reducible assumption | with_reducible exact Kp.refl _ | with_reducible refine Kp.drew ?_ | with_reducible refine Kp.drewN ?_ _ | with_reducible refine Kp.alloc ?_ _ | ((with_reducible refine Kp.setCell ?_ ?_ _); rotate_left; (focus (first | omega | (simp; done) | (simp; omega)))) | with_reducible refine Kp.trans ?_ (by assumption))))
  generalize ((w.alloc (.cells #[sv s] 9)).alloc (.cells #[.int .i64 0, .int .i64 0, .int .i64 0, .int .i64 0, .int .i64 0] 33)).alloc (.cells #[.int .i64 0, .int .i64 0, .int .i64 0, .int .i64 0, .int .i64 0] 33) = W at hq hh br0 bp0 hsz kw0
  rw [hsz] at hh
  rcases hq with ⟨p, w3, hp, rfl, k3, rfl⟩ | ⟨hp, rfl, k3⟩
  · rcases hh with ⟨_, rfl, rfl⟩ | ⟨e3, _⟩
    · have br1 := (blk_lay5o ((br0.alloc (.cells #[.bool false] 4)).kp k3) (P := w.heap.size + 1 + 1) (by omega) p).other (a := ⟨w.heap.size + 1 + 1 + 1, 0, none⟩) (by show w.heap.size + 1 ≠ w.heap.size + 1 + 1 + 1; omega) (.bool false)
      have bp1 := (blk_lay5 ((bp0.alloc (.cells #[.bool false] 4)).kp k3) p).other (a := ⟨w.heap.size + 1 + 1 + 1, 0, none⟩) (by show w.heap.size + 1 + 1 ≠ w.heap.size + 1 + 1 + 1; omega) (.bool false)
      have kw5 : Kp w ((lay5 w3 (w.heap.size + 1 + 1) p).setCell ⟨w.heap.size + 1 + 1 + 1, 0, none⟩ (.bool false)) := Kp.setCell (kp_lay5 ((kw0.alloc _).trans k3) (by omega) p) (by show w.heap.size ≤ w.heap.size + 1 + 1 + 1; omega) _
      generalize (lay5 w3 (w.heap.size + 1 + 1) p).setCell ⟨w.heap.size + 1 + 1 + 1, 0, none⟩ (.bool false) = w5 at br1 bp1 kw5 ⊢
      clear br0 bp0 k3 kw0 hsz
      have f0 := br1.free 0
      have f1 := br1.free 1
      have f2 := br1.free 2
      have f3 := br1.free 3
      have f4 := br1.free 4
      have y0 := br1.cell 0 rfl; have y1 := br1.cell 1 rfl; have y2 := br1.cell 2 rfl; have y3 := br1.cell 3 rfl; have y4 := br1.cell 4 rfl
      obtain ⟨pk, pn, pl, py, ph⟩ := p
      have z0 := bp1.cell 0 rfl; have z1 := bp1.cell 1 rfl; have z2 := bp1.cell 2 rfl; have z3 := bp1.cell 3 rfl; have z4 := bp1.cell 4 rfl
      go_wp2_with fail
      have zz := ((((br1.set 0 (.int .i64 pk)).set 1 (.int .i64 pn)).set 2 (.int .i64 pl)).set 3 (.int .i64 py)).set 4 (.int .i64 ph)
      have q0 := zz.cell 0 rfl; have q1 := zz.cell 1 rfl; have q2 := zz.cell 2 rfl; have q3 := zz.cell 3 rfl; have q4 := zz.cell 4 rfl
      clear y0 y1 y2 y3 y4 z0 z1 z2 z3 z4
      refine bodyPost_ret (v := .tuple #[.agg #[.int .i64 pk, .int .i64 pn, .int .i64 pl, .int .i64 py, .int .i64 ph], .bool true]) (by simp [results, Tryd.results10, go_sem, q0, q1, q2, q3, q4]) rfl ?_
      exact ⟨(by (repeat (first | with_reducible assumption | with_reducible exact Kp.refl _ | with_reducible refine Kp.drew ?_ | with_reducible refine Kp.drewN ?_ _ | with_reducible refine Kp.alloc ?_ _ | ((with_reducible refine Kp.setCell ?_ ?_ _); rotate_left; (focus (first | omega | (simp; done) | (simp; omega)))) | with_reducible refine Kp.trans ?_ (by assumption)))), .inl ⟨_, hp, rfl⟩⟩
    · cases e3
  · rcases hh with ⟨e3, _⟩ | ⟨_, rfl, rfl⟩
    · cases e3
    · have br1 := (((br0.alloc (.cells #[.bool false] 4)).kp k3).other (a := ⟨w.heap.size + 1 + 1 + 1, 0, none⟩) (by show w.heap.size + 1 ≠ w.heap.size + 1 + 1 + 1; omega) (.bool true)).alloc (.cells #[] 83)
      have kw5 : Kp w ((w2.setCell ⟨w.heap.size + 1 + 1 + 1, 0, none⟩ (.bool true)).alloc (.cells #[] 83)) := Kp.alloc (Kp.setCell ((kw0.alloc _).trans k3) (by show w.heap.size ≤ w.heap.size + 1 + 1 + 1; omega) _) _
      generalize (w2.setCell ⟨w.heap.size + 1 + 1 + 1, 0, none⟩ (.bool true)).alloc (.cells #[] 83) = w5 at br1 kw5 ⊢
      clear br0 bp0 k3 kw0 hsz
      have f0 := br1.free 0
      have f1 := br1.free 1
      have f2 := br1.free 2
      have f3 := br1.free 3
      have f4 := br1.free 4
      have y0 := br1.cell 0 rfl; have y1 := br1.cell 1 rfl; have y2 := br1.cell 2 rfl; have y3 := br1.cell 3 rfl; have y4 := br1.cell 4 rfl
      go_wp2_with fail
      have zz := ((((br1.set 0 (.int .i64 0)).set 1 (.int .i64 0)).set 2 (.int .i64 0)).set 3 (.int .i64 0)).set 4 (.int .i64 0)
      have q0 := zz.cell 0 rfl; have q1 := zz.cell 1 rfl; have q2 := zz.cell 2 rfl; have q3 := zz.cell 3 rfl; have q4 := zz.cell 4 rfl
      clear y0 y1 y2 y3 y4
      refine bodyPost_ret (v := .tuple #[zeroP, .bool false]) (by simp [results, Tryd.results10, go_sem, q0, q1, q2, q3, q4, zeroP]) rfl ?_
      exact ⟨(by (repeat (first | with_reducible assumption | with_reducible exact Kp.refl _ | with_reducible refine Kp.drew ?_ | with_reducible refine Kp.drewN ?_ _ | with_reducible refine Kp.alloc ?_ _ | ((with_reducible refine Kp.setCell ?_ ?_ _); rotate_left; (focus (first | omega | (simp; done) | (simp; omega)))) | with_reducible refine Kp.trans ?_ (by assumption)))), .inr ⟨hp, rfl⟩⟩
end Go.Proofs.YtkglkbkikgncoaaDoor
