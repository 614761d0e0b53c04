/- Part 6 of the proof: A galley's lines: a line's thing, or the way out; what catches it. A galley: the thing of a text. A galley's Read: line by line, along a chain of states. A galley's Read along a chain of states. The document's lines: words. The document's lines: a word's value, a line's numbers. The document's lines: a line's numbers. -/
import Derived.Test.YteadhacoglcbfaaDoorZ5
import Derived.Recover
import Derived.Laws.Pointers
namespace Go.Proofs.YteadhacoglcbfaaDoor

open Go.ChangeShapes Go.WideShapes Go.ChangeAt Go.RowKit Go.Shelf

theorem len2 {l : List Int} (h : l.length = 2) : ∃ a b, l = [a, b] := by
  obtain _ | ⟨a, _ | ⟨b, _ | ⟨c, l⟩⟩⟩ := l <;> simp at h
  exact ⟨a, b, rfl⟩
theorem len3 {l : List Int} (h : l.length = 3) : ∃ a b c, l = [a, b, c] := by
  obtain _ | ⟨a, l⟩ := l
  · cases h
  · obtain ⟨b, c, rfl⟩ := len2 (l := l) (by simpa using h)
    exact ⟨a, b, c, rfl⟩
theorem len4 {l : List Int} (h : l.length = 4) : ∃ a b c d, l = [a, b, c, d] := by
  obtain _ | ⟨a, l⟩ := l
  · cases h
  · obtain ⟨b, c, d, rfl⟩ := len3 (l := l) (by simpa using h)
    exact ⟨a, b, c, d, rfl⟩
theorem len5 {l : List Int} (h : l.length = 5) : ∃ a b c d e, l = [a, b, c, d, e] := by
  obtain _ | ⟨a, l⟩ := l
  · cases h
  · obtain ⟨b, c, d, e, rfl⟩ := len4 (l := l) (by simpa using h)
    exact ⟨a, b, c, d, e, rfl⟩
theorem putOf_box {ns : List Int} (h : ns.length ≠ 3) : putOf wBox ns = none := by
  unfold putOf; rw [if_pos rfl]; split
  · exact absurd rfl h
  · rfl
theorem putOf_float {ns : List Int} (h : ns.length ≠ 3) : putOf wFloat ns = none := by
  unfold putOf; rw [if_neg (by decide), if_pos rfl]; split
  · exact absurd rfl h
  · rfl
theorem putOf_rule {ns : List Int} (h : ns.length ≠ 2) : putOf wRule ns = none := by
  unfold putOf; rw [if_neg (by decide), if_neg (by decide), if_pos rfl]; split
  · exact absurd rfl h
  · rfl
theorem putOf_line {ns : List Int} (h : ns.length ≠ 4) : putOf wLine ns = none := by
  unfold putOf; rw [if_neg (by decide), if_neg (by decide), if_neg (by decide), if_pos rfl]; split
  · exact absurd rfl h
  · rfl
theorem putOf_thing {ns : List Int} (h : ns.length ≠ 5) : putOf wThing ns = none := by
  unfold putOf; rw [if_neg (by decide), if_neg (by decide), if_neg (by decide), if_neg (by decide), if_pos rfl]; split
  · exact absurd rfl h
  · rfl
def PutEnd (w : World) (wd : List UInt8) (ns : List Int) (e : Ending) (w' : World) : Prop := Kp w w' ∧ ((∃ p, putOf wd ns = some p ∧ e = .returned (.agg p.cells.toArray)) ∨ (putOf wd ns = none ∧ e = .panicked gone))
theorem putc_any (wd : List UInt8) (ns : List Int) (a : Option Addr) (c : Nat) (w : World) (hl : SlOk w 1 enc1 a ns.length c ns) :
    Calls Tryd.prog 26 #[.agg #[sv wd, .slice a ns.length c]] w (PutEnd w wd ns) := by
  by_cases e1 : wd = wBox
  · subst e1
    by_cases h : ns.length = 3
    · obtain ⟨n, y, x, rfl⟩ := len3 h
      exact (putBox_yes a c n y x w hl).mono fun e w' hh => ⟨hh.2, .inl ⟨_, rfl, hh.1⟩⟩
    · exact (putBox_many a _ c w h).mono fun e w' hh => ⟨hh.2, .inr ⟨putOf_box h, hh.1⟩⟩
  by_cases e2 : wd = wFloat
  · subst e2
    by_cases h : ns.length = 3
    · obtain ⟨n, y, x, rfl⟩ := len3 h
      exact (putFloat_yes a c n y x w hl).mono fun e w' hh => ⟨hh.2, .inl ⟨_, rfl, hh.1⟩⟩
    · exact (putFloat_many a _ c w h).mono fun e w' hh => ⟨hh.2, .inr ⟨putOf_float h, hh.1⟩⟩
  by_cases e3 : wd = wRule
  · subst e3
    by_cases h : ns.length = 2
    · obtain ⟨y, x, rfl⟩ := len2 h
      exact (putRule_yes a c y x w hl).mono fun e w' hh => ⟨hh.2, .inl ⟨_, rfl, hh.1⟩⟩
    · exact (putRule_many a _ c w h).mono fun e w' hh => ⟨hh.2, .inr ⟨putOf_rule h, hh.1⟩⟩
  by_cases e4 : wd = wLine
  · subst e4
    by_cases h : ns.length = 4
    · obtain ⟨n, l, y, x, rfl⟩ := len4 h
      exact (putLine_yes a c n l y x w hl).mono fun e w' hh => ⟨hh.2, .inl ⟨_, rfl, hh.1⟩⟩
    · exact (putLine_many a _ c w h).mono fun e w' hh => ⟨hh.2, .inr ⟨putOf_line h, hh.1⟩⟩
  by_cases e5 : wd = wThing
  · subst e5
    by_cases h : ns.length = 5
    · obtain ⟨k, n, l, y, x, rfl⟩ := len5 h
      have hk : putOf wThing [k, n, l, y, x] = if k < 1 ∨ 4 < k then some ⟨k, n, l, y, x⟩ else none := rfl
      by_cases h1 : k < 1
      · exact (putThing_low a c k n l y x w hl h1).mono fun e w' hh => ⟨hh.2, .inl ⟨_, by rw [hk, if_pos (.inl h1)], hh.1⟩⟩
      by_cases h2 : 4 < k
      · exact (putThing_high a c k n l y x w hl h1 h2).mono fun e w' hh => ⟨hh.2, .inl ⟨_, by rw [hk, if_pos (.inr h2)], hh.1⟩⟩
      exact (putThing_no a c k n l y x w hl h1 h2).mono fun e w' hh => ⟨hh.2, .inr ⟨by rw [hk, if_neg (by omega)], hh.1⟩⟩
    · exact (putThing_many a _ c w h).mono fun e w' hh => ⟨hh.2, .inr ⟨putOf_thing h, hh.1⟩⟩
  · exact (putOther_no wd a _ c w e1 e2 e3 e4 e5).mono fun e w' hh => ⟨hh.2, .inr ⟨by unfold putOf; rw [if_neg e1, if_neg e2, if_neg e3, if_neg e4, if_neg e5], hh.1⟩⟩
theorem tmps40 (p x : Value) : #[p] ++ ((Array.replicate 14 undef).setIfInBounds 3 x).setIfInBounds 0 x = #[p, x, undef, undef, x, undef, undef, undef, undef, undef, undef, undef, undef, undef, undef] := rfl
abbrev caughtM : FrameMode := .panicking [{ v := .iface 83 (.agg #[]), recovered := true }]
set_option maxRecDepth 100000 in
set_option maxHeartbeats 1000000 in
theorem catch_gone (B : Nat) (b : Bool) (w : World) (hb : Blk w B [.bool b] 4) :
    CallsD Tryd.prog 40 #[.pointer (some ⟨B, 0, none⟩)] (.panicking gone) w fun e u' w' =>
      e = .returned (.tuple #[]) ∧ u' = caughtM ∧ w' = (w.setCell ⟨B, 0, none⟩ (.bool true)).alloc (.cells #[] 83) := by
  have hta : ∀ w : World, (Instr.typeAssert (.iface 83 (.agg #[])) 20 83 true).run Tryd.prog w = .ok (.tuple #[.agg #[], .bool true]) w := fun _ => by kernel_rfl
  have hc := hb.cell 0 rfl
  have hp := hb.lt
  have hz := (hb.alloc (.cells #[] 83)).free 0
  refine callsD_of_wpS Tryd.func40 rfl fun c₀ cs hu => ?_
  apply wpS_seq
  apply wpS_region
  simp [wpOpsS, go_sem, recoverD, hu, Tryd.ntmps40, Exit.thenS]
  refine wpS_of_wp ?_
  rw [tmps40]
  go_wp2_with fail
  simp [bodyPostS, results, Tryd.results40, go_sem]
set_option maxRecDepth 100000 in
set_option maxHeartbeats 1000000 in
theorem catch_idle (B : Nat) (w : World) :
    CallsD Tryd.prog 40 #[.pointer (some ⟨B, 0, none⟩)] .returning w fun e u' w' => e = .returned (.tuple #[]) ∧ u' = .returning ∧ w' = w := by
  refine callsD_of_wpS Tryd.func40 rfl fun c₀ cs hu => ?_
  apply wpS_seq
  apply wpS_region
  simp [wpOpsS, go_sem, recoverD, hu, Tryd.ntmps40, Exit.thenS]
  refine wpS_of_wp ?_
  rw [tmps40]
  go_wp2_with fail
  cases c₀
  simp_all [bodyPostS, results, Tryd.results40, go_sem]
/-- What 'caught' makes of what its closure does. -/
def Caught (B : Nat) (Q : Ending → World → Prop) (e : Ending) (w' : World) : Prop :=
  ∃ e2 w2, Q e2 w2 ∧ ((e2 = .returned (.tuple #[]) ∧ e = .returned (.bool false) ∧ w' = w2.setCell ⟨B, 0, none⟩ (.bool false)) ∨ (e2 = .panicked gone ∧ e = .returned (.bool true) ∧ w' = (w2.setCell ⟨B, 0, none⟩ (.bool true)).alloc (.cells #[] 83)))
set_option maxRecDepth 100000 in
set_option maxHeartbeats 2000000 in
theorem caught_put (caps : Array Value) (w : World) (Q : Ending → World → Prop) (hq : ∀ e w2, Q e w2 → (e = .returned (.tuple #[]) ∨ e = .panicked gone) ∧ Blk w2 w.heap.size [.bool false] 4)
    (hc : Calls Tryd.prog 24 caps (w.alloc (.cells #[.bool false] 4)) Q) :
    Calls Tryd.prog 19 #[.func (.func 24) #[] caps] w (Caught w.heap.size Q) := by
  have hmf : ∀ (fn : Fn) (first cap : Array Value) (w : World), (Instr.makeFunc fn first cap).run Tryd.prog w = .ok (.func fn first cap) w := fun _ _ _ _ => rfl
  have HC := Lib.hid hc
  have HQ := Lib.hid hq
  clear hc hq
  go_enter_defers Tryd.func19, Tryd.ntmps19
  go_wp2_with fail
  refine HC.out.mono ?_
  intro e w2 hq2
  obtain ⟨he, hb⟩ := HQ.out e w2 hq2
  have hb0 := hb.cell 0 rfl
  have hbf := hb.free 0
  have hbl := hb.lt
  rcases he with rfl | rfl
  · go_wp2_with fail
    refine leaves_cons (f := 40) (args := #[.pointer (some ⟨w.heap.size, 0, none⟩)]) (by simp) (by simp [go_sem]) ?_
    refine (catch_idle w.heap.size _).mono ?_
    rintro e u' w'' ⟨rfl, rfl, rfl⟩
    have q0 := (hb.set 0 (.bool false)).cell 0 rfl
    simp [Leaves, settle, results, Tryd.results19, go_sem, q0]
    exact ⟨_, _, hq2, .inl ⟨rfl, rfl, rfl⟩⟩
  · go_wp2_with fail
    refine leaves_cons (f := 40) (args := #[.pointer (some ⟨w.heap.size, 0, none⟩)]) (by simp) (by simp [go_sem]) ?_
    refine (catch_gone w.heap.size false _ hb).mono ?_
    rintro e u' w'' ⟨rfl, rfl, rfl⟩
    have q0 := ((hb.set 0 (.bool true)).alloc (.cells #[] 83)).cell 0 rfl
    simp [Leaves, settle, results, Tryd.results19, go_sem, q0]
    exact ⟨_, _, hq2, .inr ⟨rfl, rfl, rfl⟩⟩
end Go.Proofs.YteadhacoglcbfaaDoor
namespace Go.Proofs.YteadhacoglcbfaaDoor

open Go.ChangeShapes Go.WideShapes Go.ChangeAt Go.RowKit Go.Shelf

/-- Five cells laid into a block. -/
def lay5 (w : World) (P : Nat) (p : Put) : World := ((((w.setCell ⟨P, 0, none⟩ (.int .i64 p.k)).setCell ⟨P, 1, none⟩ (.int .i64 p.n)).setCell ⟨P, 2, none⟩ (.int .i64 p.l)).setCell ⟨P, 3, none⟩ (.int .i64 p.y)).setCell ⟨P, 4, none⟩ (.int .i64 p.h)
theorem blk_lay5 {w : World} {P : Nat} {c0 c1 c2 c3 c4 : Value} {t : TypeId} (h : Blk w P [c0, c1, c2, c3, c4] t) (p : Put) : Blk (lay5 w P p) P p.cells t := ((((h.set 0 (.int .i64 p.k)).set 1 (.int .i64 p.n)).set 2 (.int .i64 p.l)).set 3 (.int .i64 p.y)).set 4 (.int .i64 p.h)
theorem blk_lay5o {w : World} {P b : Nat} {cs : List Value} {t : TypeId} (h : Blk w b cs t) (hb : b ≠ P) (p : Put) : Blk (lay5 w P p) b cs t := ((((h.other hb _).other hb _).other hb _).other hb _).other hb _
theorem kp_lay5 {W w : World} (h : Kp W w) {P : Nat} (hP : W.heap.size ≤ P) (p : Put) : Kp W (lay5 w P p) := ((((h.setCell hP _).setCell hP _).setCell hP _).setCell hP _).setCell hP _
def PutQ (w : World) (P : Nat) (s : List UInt8) (e : Ending) (w2 : World) : Prop :=
  (∃ p w1, putP s = some p ∧ e = .returned (.tuple #[]) ∧ Kp w w1 ∧ w2 = lay5 w1 P p) ∨ (putP s = none ∧ e = .panicked gone ∧ Kp w w2)
set_option maxRecDepth 100000 in
set_option maxHeartbeats 4000000 in
theorem putClosure (S P : Nat) (s : List UInt8) (w : World) (he : Env w) (hs : s.length ≤ 10000) (hS : Blk w S [sv s] 9) (hP : Blk w P [.int .i64 0, .int .i64 0, .int .i64 0, .int .i64 0, .int .i64 0] 33) :
    Calls Tryd.prog 24 #[.pointer (some ⟨S, 0, none⟩), .pointer (some ⟨P, 0, none⟩)] w (PutQ w P s) := by
  have c0 := hS.cell 0 rfl
  have HP := Lib.hid hP
  have CP := Lib.hid (parse_any s hs w he)
  clear he hS hP
  go_enter Tryd.func24, Tryd.ntmps24
  go_wp2_with fail
  refine CP.out.mono ?_
  rintro e w1 ⟨k1, ⟨wd, ns, a, c, hp, rfl, hsl, hn⟩ | ⟨hp, rfl⟩⟩
  · have CPU := Lib.hid (putc_any wd ns a c w1 hsl)
    have HPS : Hid (putP s = putOf wd ns) := Lib.hid (by unfold putP; rw [hp])
    clear hp hsl
    go_wp2_with fail
    refine CPU.out.mono ?_
    rintro e w2 ⟨k2, ⟨p, ho, rfl⟩ | ⟨ho, rfl⟩⟩
    · have kw2 := k1.trans k2
      have hb := HP.out.kp kw2
      have f0 := hb.free 0; have f1 := hb.free 1; have f2 := hb.free 2; have f3 := hb.free 3; have f4 := hb.free 4
      have z0 := hb.cell 0 rfl; have z1 := hb.cell 1 rfl; have z2 := hb.cell 2 rfl; have z3 := hb.cell 3 rfl; have z4 := hb.cell 4 rfl
      obtain ⟨pk, pn, pl, py, ph⟩ := p
      unfold Put.cells
      go_wp2_with fail
      refine bodyPost_ret (results_none rfl _ _ _) rfl ?_
      exact .inl ⟨_, w2, HPS.out.trans ho, rfl, kw2, rfl⟩
    · go_wp2_with fail
      exact ⟨rfl, .inr ⟨HPS.out.trans ho, rfl, k1.trans k2⟩⟩
  · have hps : putP s = none := by unfold putP; rw [hp]
    go_wp2_with fail
    exact ⟨rfl, .inr ⟨hps, rfl, k1⟩⟩
def zeroP : Value := .agg #[.int .i64 0, .int .i64 0, .int .i64 0, .int .i64 0, .int .i64 0]
theorem putQ_ends {w : World} {P : Nat} {s : List UInt8} (hP : P < w.heap.size) (e : Ending) (w2 : World) (h : PutQ (w.alloc (.cells #[.bool false] 4)) P s e w2) : (e = .returned (.tuple #[]) ∨ e = .panicked gone) ∧ Blk w2 w.heap.size [.bool false] 4 := by
  have hb : Blk (w.alloc (.cells #[.bool false] 4)) w.heap.size [.bool false] 4 := Blk.new _ _ _
  rcases h with ⟨p, w1, _, rfl, k, rfl⟩ | ⟨_, rfl, k⟩
  · exact ⟨.inl rfl, blk_lay5o (hb.kp k) (by omega) p⟩
  · exact ⟨.inr rfl, hb.kp k⟩
set_option maxRecDepth 100000 in
set_option maxHeartbeats 4000000 in
theorem galleyPut_any (s : List UInt8) (hs : s.length ≤ 10000) (w : World) (he : Env w) :
    Calls Tryd.prog 10 #[sv s] w fun e w' => Kp w w' ∧ ((∃ p, putP s = some p ∧ e = .returned (.tuple #[.agg p.cells.toArray, .bool true])) ∨ (putP s = none ∧ e = .returned (.tuple #[zeroP, .bool false]))) := by
  have hmf : ∀ (fn : Fn) (first cap : Array Value) (w : World), (Instr.makeFunc fn first cap).run Tryd.prog w = .ok (.func fn first cap) w := fun _ _ _ _ => rfl
  have HE := Lib.hid he
  clear he
  go_enter Tryd.func10, Tryd.ntmps10
  go_wp2_with fail
  refine Calls.mono (caught_put _ _ (PutQ _ (w.heap.size + 1 + 1) s) (putQ_ends ?lt) (putClosure w.heap.size (w.heap.size + 1 + 1) s _ ?env hs ?bS ?bP)) ?_
  case lt => simp
  case env => exact HE.out.kp (by (repeat (first | with_reducible assumption | with_reducible exact Kp.refl _ | with_reducible refine Kp.drew ?_ | with_reducible refine Kp.drewN ?_ _ | with_reducible refine Kp.alloc ?_ _ | ((with_reducible refine Kp.setCell ?_ ?_ _); rotate_left; (focus (first | omega | (simp; done) | (simp; omega)))) | with_reducible refine Kp.trans ?_ (by assumption))))
  case bS => exact (by (repeat (first | with_reducible assumption | ((with_reducible refine Blk.newL ?_ ?_); (focus (first | (simp; done) | omega)); rfl) | with_reducible refine Blk.drew ?_ | with_reducible refine Blk.drewN ?_ _ | with_reducible refine Blk.alloc ?_ _ | ((with_reducible refine Blk.other ?_ ?_ _); rotate_left; (focus (first | with_reducible assumption | omega | (simp; done) | (simp; omega)))))))
  case bP => exact (by (repeat (first | with_reducible assumption | ((with_reducible refine Blk.newL ?_ ?_); (focus (first | (simp; done) | omega)); rfl) | with_reducible refine Blk.drew ?_ | with_reducible refine Blk.drewN ?_ _ | with_reducible refine Blk.alloc ?_ _ | ((with_reducible refine Blk.other ?_ ?_ _); rotate_left; (focus (first | with_reducible assumption | omega | (simp; done) | (simp; omega)))))))
  rintro e w1 ⟨e2, w2, hq, hh⟩
  have br0 : Blk (((w.alloc (.cells #[sv s] 9)).alloc (.cells #[.int .i64 0, .int .i64 0, .int .i64 0, .int .i64 0, .int .i64 0] 33)).alloc (.cells #[.int .i64 0, .int .i64 0, .int .i64 0, .int .i64 0, .int .i64 0] 33)) (w.heap.size + 1) [.int .i64 0, .int .i64 0, .int .i64 0, .int .i64 0, .int .i64 0] 33 := (by (repeat (first | with_reducible assumption | ((with_reducible refine Blk.newL ?_ ?_); (focus (first | (simp; done) | omega)); rfl) | with_reducible refine Blk.drew ?_ | with_reducible refine Blk.drewN ?_ _ | with_reducible refine Blk.alloc ?_ _ | ((with_reducible refine Blk.other ?_ ?_ _); rotate_left; (focus (first | with_reducible assumption | omega | (simp; done) | (simp; omega)))))))
  have bp0 : Blk (((w.alloc (.cells #[sv s] 9)).alloc (.cells #[.int .i64 0, .int .i64 0, .int .i64 0, .int .i64 0, .int .i64 0] 33)).alloc (.cells #[.int .i64 0, .int .i64 0, .int .i64 0, .int .i64 0, .int .i64 0] 33)) (w.heap.size + 1 + 1) [.int .i64 0, .int .i64 0, .int .i64 0, .int .i64 0, .int .i64 0] 33 := (by (repeat (first | with_reducible assumption | ((with_reducible refine Blk.newL ?_ ?_); (focus (first | (simp; done) | omega)); rfl) | with_reducible refine Blk.drew ?_ | with_reducible refine Blk.drewN ?_ _ | with_reducible refine Blk.alloc ?_ _ | ((with_reducible refine Blk.other ?_ ?_ _); rotate_left; (focus (first | with_reducible assumption | omega | (simp; done) | (simp; omega)))))))
  have hsz : (((w.alloc (.cells #[sv s] 9)).alloc (.cells #[.int .i64 0, .int .i64 0, .int .i64 0, .int .i64 0, .int .i64 0] 33)).alloc (.cells #[.int .i64 0, .int .i64 0, .int .i64 0, .int .i64 0, .int .i64 0] 33)).heap.size = w.heap.size + 1 + 1 + 1 := by simp
  have kw0 : Kp w (((w.alloc (.cells #[sv s] 9)).alloc (.cells #[.int .i64 0, .int .i64 0, .int .i64 0, .int .i64 0, .int .i64 0] 33)).alloc (.cells #[.int .i64 0, .int .i64 0, .int .i64 0, .int .i64 0, .int .i64 0] 33)) := (by (repeat (first | with_reducible assumption | with_reducible exact Kp.refl _ | with_reducible refine Kp.drew ?_ | with_reducible refine Kp.drewN ?_ _ | with_reducible refine Kp.alloc ?_ _ | ((with_reducible refine Kp.setCell ?_ ?_ _); rotate_left; (focus (first | omega | (simp; done) | (simp; omega)))) | with_reducible refine Kp.trans ?_ (by assumption))))
  generalize ((w.alloc (.cells #[sv s] 9)).alloc (.cells #[.int .i64 0, .int .i64 0, .int .i64 0, .int .i64 0, .int .i64 0] 33)).alloc (.cells #[.int .i64 0, .int .i64 0, .int .i64 0, .int .i64 0, .int .i64 0] 33) = W at hq hh br0 bp0 hsz kw0
  rw [hsz] at hh
  rcases hq with ⟨p, w3, hp, rfl, k3, rfl⟩ | ⟨hp, rfl, k3⟩
  · rcases hh with ⟨_, rfl, rfl⟩ | ⟨e3, _⟩
    · have br1 := (blk_lay5o ((br0.alloc (.cells #[.bool false] 4)).kp k3) (P := w.heap.size + 1 + 1) (by omega) p).other (a := ⟨w.heap.size + 1 + 1 + 1, 0, none⟩) (by show w.heap.size + 1 ≠ w.heap.size + 1 + 1 + 1; omega) (.bool false)
      have bp1 := (blk_lay5 ((bp0.alloc (.cells #[.bool false] 4)).kp k3) p).other (a := ⟨w.heap.size + 1 + 1 + 1, 0, none⟩) (by show w.heap.size + 1 + 1 ≠ w.heap.size + 1 + 1 + 1; omega) (.bool false)
      have kw5 : Kp w ((lay5 w3 (w.heap.size + 1 + 1) p).setCell ⟨w.heap.size + 1 + 1 + 1, 0, none⟩ (.bool false)) := Kp.setCell (kp_lay5 ((kw0.alloc _).trans k3) (by omega) p) (by show w.heap.size ≤ w.heap.size + 1 + 1 + 1; omega) _
      generalize (lay5 w3 (w.heap.size + 1 + 1) p).setCell ⟨w.heap.size + 1 + 1 + 1, 0, none⟩ (.bool false) = w5 at br1 bp1 kw5 ⊢
      clear br0 bp0 k3 kw0 hsz
      have f0 := br1.free 0
      have f1 := br1.free 1
      have f2 := br1.free 2
      have f3 := br1.free 3
      have f4 := br1.free 4
      have y0 := br1.cell 0 rfl; have y1 := br1.cell 1 rfl; have y2 := br1.cell 2 rfl; have y3 := br1.cell 3 rfl; have y4 := br1.cell 4 rfl
      obtain ⟨pk, pn, pl, py, ph⟩ := p
      have z0 := bp1.cell 0 rfl; have z1 := bp1.cell 1 rfl; have z2 := bp1.cell 2 rfl; have z3 := bp1.cell 3 rfl; have z4 := bp1.cell 4 rfl
      go_wp2_with fail
      have zz := ((((br1.set 0 (.int .i64 pk)).set 1 (.int .i64 pn)).set 2 (.int .i64 pl)).set 3 (.int .i64 py)).set 4 (.int .i64 ph)
      have q0 := zz.cell 0 rfl; have q1 := zz.cell 1 rfl; have q2 := zz.cell 2 rfl; have q3 := zz.cell 3 rfl; have q4 := zz.cell 4 rfl
      clear y0 y1 y2 y3 y4 z0 z1 z2 z3 z4
      refine bodyPost_ret (v := .tuple #[.agg #[.int .i64 pk, .int .i64 pn, .int .i64 pl, .int .i64 py, .int .i64 ph], .bool true]) (by simp [results, Tryd.results10, go_sem, q0, q1, q2, q3, q4]) rfl ?_
      exact ⟨(by (repeat (first | with_reducible assumption | with_reducible exact Kp.refl _ | with_reducible refine Kp.drew ?_ | with_reducible refine Kp.drewN ?_ _ | with_reducible refine Kp.alloc ?_ _ | ((with_reducible refine Kp.setCell ?_ ?_ _); rotate_left; (focus (first | omega | (simp; done) | (simp; omega)))) | with_reducible refine Kp.trans ?_ (by assumption)))), .inl ⟨_, hp, rfl⟩⟩
    · cases e3
  · rcases hh with ⟨e3, _⟩ | ⟨_, rfl, rfl⟩
    · cases e3
    · have br1 := (((br0.alloc (.cells #[.bool false] 4)).kp k3).other (a := ⟨w.heap.size + 1 + 1 + 1, 0, none⟩) (by show w.heap.size + 1 ≠ w.heap.size + 1 + 1 + 1; omega) (.bool true)).alloc (.cells #[] 83)
      have kw5 : Kp w ((w2.setCell ⟨w.heap.size + 1 + 1 + 1, 0, none⟩ (.bool true)).alloc (.cells #[] 83)) := Kp.alloc (Kp.setCell ((kw0.alloc _).trans k3) (by show w.heap.size ≤ w.heap.size + 1 + 1 + 1; omega) _) _
      generalize (w2.setCell ⟨w.heap.size + 1 + 1 + 1, 0, none⟩ (.bool true)).alloc (.cells #[] 83) = w5 at br1 kw5 ⊢
      clear br0 bp0 k3 kw0 hsz
      have f0 := br1.free 0
      have f1 := br1.free 1
      have f2 := br1.free 2
      have f3 := br1.free 3
      have f4 := br1.free 4
      have y0 := br1.cell 0 rfl; have y1 := br1.cell 1 rfl; have y2 := br1.cell 2 rfl; have y3 := br1.cell 3 rfl; have y4 := br1.cell 4 rfl
      go_wp2_with fail
      have zz := ((((br1.set 0 (.int .i64 0)).set 1 (.int .i64 0)).set 2 (.int .i64 0)).set 3 (.int .i64 0)).set 4 (.int .i64 0)
      have q0 := zz.cell 0 rfl; have q1 := zz.cell 1 rfl; have q2 := zz.cell 2 rfl; have q3 := zz.cell 3 rfl; have q4 := zz.cell 4 rfl
      clear y0 y1 y2 y3 y4
      refine bodyPost_ret (v := .tuple #[zeroP, .bool false]) (by simp [results, Tryd.results10, go_sem, q0, q1, q2, q3, q4, zeroP]) rfl ?_
      exact ⟨(by (repeat (first | with_reducible assumption | with_reducible exact Kp.refl _ | with_reducible refine Kp.drew ?_ | with_reducible refine Kp.drewN ?_ _ | with_reducible refine Kp.alloc ?_ _ | ((with_reducible refine Kp.setCell ?_ ?_ _); rotate_left; (focus (first | omega | (simp; done) | (simp; omega)))) | with_reducible refine Kp.trans ?_ (by assumption)))), .inr ⟨hp, rfl⟩⟩
end Go.Proofs.YteadhacoglcbfaaDoor
namespace Go.Proofs.YteadhacoglcbfaaDoor

open Go.ChangeShapes Go.WideShapes Go.ChangeAt Go.RowKit Go.Shelf

set_option maxRecDepth 100000 in
set_option maxHeartbeats 2000000 in
theorem caught_read (caps : Array Value) (w : World) (Q : Ending → World → Prop) (hq : ∀ e w2, Q e w2 → (e = .returned (.tuple #[]) ∨ e = .panicked gone) ∧ Blk w2 w.heap.size [.bool false] 4)
    (hc : Calls Tryd.prog 20 caps (w.alloc (.cells #[.bool false] 4)) Q) :
    Calls Tryd.prog 19 #[.func (.func 20) #[] caps] w (Caught w.heap.size Q) := by
  have hmf : ∀ (fn : Fn) (first cap : Array Value) (w : World), (Instr.makeFunc fn first cap).run Tryd.prog w = .ok (.func fn first cap) w := fun _ _ _ _ => rfl
  have HC := Lib.hid hc
  have HQ := Lib.hid hq
  clear hc hq
  go_enter_defers Tryd.func19, Tryd.ntmps19
  go_wp2_with fail
  refine HC.out.mono ?_
  intro e w2 hq2
  obtain ⟨he, hb⟩ := HQ.out e w2 hq2
  have hb0 := hb.cell 0 rfl
  have hbf := hb.free 0
  have hbl := hb.lt
  rcases he with rfl | rfl
  · go_wp2_with fail
    refine leaves_cons (f := 40) (args := #[.pointer (some ⟨w.heap.size, 0, none⟩)]) (by simp) (by simp [go_sem]) ?_
    refine (catch_idle w.heap.size _).mono ?_
    rintro e u' w'' ⟨rfl, rfl, rfl⟩
    have q0 := (hb.set 0 (.bool false)).cell 0 rfl
    simp [Leaves, settle, results, Tryd.results19, go_sem, q0]
    exact ⟨_, _, hq2, .inl ⟨rfl, rfl, rfl⟩⟩
  · go_wp2_with fail
    refine leaves_cons (f := 40) (args := #[.pointer (some ⟨w.heap.size, 0, none⟩)]) (by simp) (by simp [go_sem]) ?_
    refine (catch_gone w.heap.size false _ hb).mono ?_
    rintro e u' w'' ⟨rfl, rfl, rfl⟩
    have q0 := ((hb.set 0 (.bool true)).alloc (.cells #[] 83)).cell 0 rfl
    simp [Leaves, settle, results, Tryd.results19, go_sem, q0]
    exact ⟨_, _, hq2, .inr ⟨rfl, rfl, rfl⟩⟩
/-- States of what is read so far: number k, the value v in block O. -/
structure Chain (w : World) (N : Nat) (lines rests : Nat → List UInt8) (St : Nat → Nat → Value → World → Prop) : Prop where
  kp : ∀ k O v w1 w2, Kp w1 w2 → St k O v w1 → St k O v w2
  bool : ∀ k O v w1 B b u, Blk w1 B [.bool b] 4 → St k O v w1 → St k O v (w1.setCell ⟨B, 0, none⟩ u)
  out : ∀ k O v w1, St k O v w1 → Blk w1 O [v] 23 ∧ ∃ a n c, v = .slice a n c
  cut : ∀ k, k < N → rests k ≠ [] ∧ Lib.cut (rests k) [10] = (lines k, rests (k + 1), true)
  short : ∀ k, (rests k).length ≤ 1000000000
  step : ∀ k O v w1 S, k < N → w.heap.size ≤ O → Kp w w1 → St k O v w1 → Blk w1 S [sv (lines k)] 9 → Calls Tryd.prog 20 #[.pointer (some ⟨O, 0, none⟩), .pointer (some ⟨S, 0, none⟩)] w1 fun e w2 =>
    e = .returned (.tuple #[]) ∧ (∃ v2, St (k + 1) O v2 w2) ∧ Kp w w2 ∧ ∀ B b, Blk w1 B [.bool b] 4 → Blk w2 B [.bool b] 4
theorem cut_run (s : List UInt8) (hs : s.length ≤ 1000000000) (w : World) (he : Env w) :
    Calls Tryd.prog 18 #[sv s, .string ⟨#[10]⟩] w fun e w' => e = .returned (.tuple #[sv (Lib.cut s [10]).1, sv (Lib.cut s [10]).2.1, .bool (Lib.cut s [10]).2.2]) ∧ Kp w w' := by
  obtain ⟨m, t, f, hh⟩ := he.maxl
  refine (Tryd.strings_Cut ⟨s.toArray⟩ ⟨#[10]⟩ m w (by rw [size_sv]; omega) (by simp [World.cell?, hh])).mono ?_
  rintro e w' ⟨rfl, n, rfl⟩
  exact ⟨rfl, (by (repeat (first | with_reducible assumption | with_reducible exact Kp.refl _ | with_reducible refine Kp.drew ?_ | with_reducible refine Kp.drewN ?_ _ | with_reducible refine Kp.alloc ?_ _ | ((with_reducible refine Kp.setCell ?_ ?_ _); rotate_left; (focus (first | omega | (simp; done) | (simp; omega)))) | with_reducible refine Kp.trans ?_ (by assumption))))⟩
end Go.Proofs.YteadhacoglcbfaaDoor
namespace Go.Proofs.YteadhacoglcbfaaDoor

open Go.ChangeShapes Go.WideShapes Go.ChangeAt Go.RowKit Go.Shelf

set_option maxRecDepth 100000 in
set_option maxHeartbeats 8000000 in
theorem read_done (w : World) (N : Nat) (lines rests : Nat → List UInt8) (St : Nat → Nat → Value → World → Prop) (hC : Chain w N lines rests St) (he : Env w) (hN : N ≤ 100000) (hend : rests N = [])
    (h0 : ∀ O w1, w.heap.size ≤ O → Kp w w1 → Blk w1 O [.slice none 0 0] 23 → St 0 O (.slice none 0 0) w1) :
    Calls Tryd.prog 7 #[sv (rests 0)] w fun e w' => Kp w w' ∧ ∃ O v, e = .returned (.tuple #[v, .int .i64 0]) ∧ St N O v w' := by
  have hmf : ∀ (fn : Fn) (first cap : Array Value) (w : World), (Instr.makeFunc fn first cap).run Tryd.prog w = .ok (.func fn first cap) w := fun _ _ _ _ => rfl
  have HE := Lib.hid he
  have HC := Lib.hid hC
  have H0 := Lib.hid h0
  have HEND := Lib.hid hend
  clear he hC h0 hend
  obtain ⟨s0, hs0⟩ : ∃ s, rests 0 = s := ⟨_, rfl⟩
  rw [hs0]
  have HS0 := Lib.hid hs0
  clear hs0
  go_enter Tryd.func7, Tryd.ntmps7
  go_wp2_with fail
  go_step3
  go_wp2_with fail
  go_step3
  go_wp2_with fail
  go_loopw [0, 5] (fun v0 v5 wr => ∃ (k : Nat) (v : Value), k ≤ N ∧ v0 = sv (rests k) ∧ v5 = .int .i64 (k : Int) ∧ St k w.heap.size v wr ∧ Kp w wr) (fun _ v5 _ => N - (intOf v5).toNat)
  case atStart => exact ⟨0, _, Nat.zero_le _, by rw [HS0.out], rfl, H0.out _ _ (Nat.le_refl _) (by (repeat (first | with_reducible assumption | with_reducible exact Kp.refl _ | with_reducible refine Kp.drew ?_ | with_reducible refine Kp.drewN ?_ _ | with_reducible refine Kp.alloc ?_ _ | ((with_reducible refine Kp.setCell ?_ ?_ _); rotate_left; (focus (first | omega | (simp; done) | (simp; omega)))) | with_reducible refine Kp.trans ?_ (by assumption)))) (by (repeat (first | with_reducible assumption | ((with_reducible refine Blk.newL ?_ ?_); (focus (first | (simp; done) | omega)); rfl) | with_reducible refine Blk.drew ?_ | with_reducible refine Blk.drewN ?_ _ | with_reducible refine Blk.alloc ?_ _ | ((with_reducible refine Blk.other ?_ ?_ _); rotate_left; (focus (first | with_reducible assumption | omega | (simp; done) | (simp; omega))))))), (by (repeat (first | with_reducible assumption | with_reducible exact Kp.refl _ | with_reducible refine Kp.drew ?_ | with_reducible refine Kp.drewN ?_ _ | with_reducible refine Kp.alloc ?_ _ | ((with_reducible refine Kp.setCell ?_ ?_ _); rotate_left; (focus (first | omega | (simp; done) | (simp; omega)))) | with_reducible refine Kp.trans ?_ (by assumption))))⟩
  case round =>
    obtain ⟨k, v, hk, rfl, rfl, xs, xk⟩ := hrel
    by_cases hlt : k < N
    · obtain ⟨hne, hcut⟩ := HC.out.cut k hlt
      have CC := Lib.hid (cut_run (rests k) (HC.out.short k) wr (HE.out.kp xk))
      rw [hcut] at CC
      obtain ⟨S, hS⟩ : ∃ S, rests k = S := ⟨_, rfl⟩
      obtain ⟨R, hR⟩ : ∃ R, rests (k + 1) = R := ⟨_, rfl⟩
      rw [hR] at CC
      rw [hS] at CC hne ⊢
      have HR := Lib.hid hR
      have hq0 : (S == []) = false := beq_eq_false_iff_ne.2 hne
      have XS := Lib.hid xs
      clear hcut hS hR xs
      go_wp2_with fail
      refine CC.out.mono ?_
      rintro e w2 ⟨rfl, k2⟩
      have xs2 := HC.out.kp _ _ _ _ _ k2 XS.out
      have kw2 := xk.trans k2
      have hO2 := (HC.out.out _ _ _ _ xs2).1.lt
      clear CC XS k2 xk
      go_wp2_with fail
      have hst := HC.out.step k w.heap.size v ((w2.alloc (.cells #[sv (lines k)] 9)).alloc (.cells #[.bool false] 4)) w2.heap.size hlt (Nat.le_refl _) (by (repeat (first | with_reducible assumption | with_reducible exact Kp.refl _ | with_reducible refine Kp.drew ?_ | with_reducible refine Kp.drewN ?_ _ | with_reducible refine Kp.alloc ?_ _ | ((with_reducible refine Kp.setCell ?_ ?_ _); rotate_left; (focus (first | omega | (simp; done) | (simp; omega)))) | with_reducible refine Kp.trans ?_ (by assumption)))) (HC.out.kp _ _ _ _ _ (by (repeat (first | with_reducible assumption | with_reducible exact Kp.refl _ | with_reducible refine Kp.drew ?_ | with_reducible refine Kp.drewN ?_ _ | with_reducible refine Kp.alloc ?_ _ | ((with_reducible refine Kp.setCell ?_ ?_ _); rotate_left; (focus (first | omega | (simp; done) | (simp; omega)))) | with_reducible refine Kp.trans ?_ (by assumption)))) xs2) (by (repeat (first | with_reducible assumption | ((with_reducible refine Blk.newL ?_ ?_); (focus (first | (simp; done) | omega)); rfl) | with_reducible refine Blk.drew ?_ | with_reducible refine Blk.drewN ?_ _ | with_reducible refine Blk.alloc ?_ _ | ((with_reducible refine Blk.other ?_ ?_ _); rotate_left; (focus (first | with_reducible assumption | omega | (simp; done) | (simp; omega)))))))
      refine Calls.mono (caught_read _ _ _ (fun e w3 hq => ?_) hst) ?_
      · exact ⟨.inl hq.1, hq.2.2.2 _ _ (Blk.new _ _ _)⟩
      rintro e w4 ⟨e2, w3, ⟨rfl, ⟨v2, hs2⟩, k3, hb3⟩, ⟨_, rfl, rfl⟩ | ⟨e3, _⟩⟩
      · have hbb := hb3 _ _ (Blk.new (w2.alloc (.cells #[sv (lines k)] 9)) [.bool false] 4)
        have hs4 := HC.out.bool _ _ _ _ _ _ (.bool false) hbb hs2
        have hle := kw2.size
        have k4 : Kp w (w3.setCell ⟨(w2.alloc (.cells #[sv (lines k)] 9)).heap.size, 0, none⟩ (.bool false)) := Kp.setCell k3 (by simp; omega) _
        generalize w3.setCell ⟨(w2.alloc (.cells #[sv (lines k)] 9)).heap.size, 0, none⟩ (.bool false) = w5 at hs4 k4 ⊢
        clear hs2 hst hb3 k3 hbb xs2 hle
        go_wp2_with fail
        go_roundw
        case rel => exact ⟨k + 1, v2, by omega, by rw [HR.out], by go_num, hs4, k4⟩
        case measure => simp [intOf]; omega
      · cases e3
    · obtain rfl : k = N := by omega
      obtain ⟨hob, va, vn, vc, hv⟩ := HC.out.out _ _ _ _ xs
      subst hv
      have z0 := hob.cell 0 rfl
      rw [HEND.out]
      go_wp2_with fail
      dsimp only [Exit.noGoto]
      refine bodyPost_ret (results_tmp2 (by rfl) _ _ _) (by rfl) ?_
      exact ⟨xk, _, _, rfl, xs⟩
set_option maxRecDepth 100000 in
set_option maxHeartbeats 8000000 in
theorem read_bad (w : World) (N : Nat) (lines rests : Nat → List UInt8) (St : Nat → Nat → Value → World → Prop) (hC : Chain w N lines rests St) (he : Env w) (hN : N ≤ 100000) (line rest : List UInt8) (hne : rests N ≠ []) (hct : Lib.cut (rests N) [10] = (line, rest, true))
    (hpan : ∀ O v w1 S, w.heap.size ≤ O → Kp w w1 → St N O v w1 → Blk w1 S [sv line] 9 → Calls Tryd.prog 20 #[.pointer (some ⟨O, 0, none⟩), .pointer (some ⟨S, 0, none⟩)] w1 fun e w2 => e = .panicked gone ∧ Kp w w2 ∧ ∀ B b, Blk w1 B [.bool b] 4 → Blk w2 B [.bool b] 4)
    (h0 : ∀ O w1, w.heap.size ≤ O → Kp w w1 → Blk w1 O [.slice none 0 0] 23 → St 0 O (.slice none 0 0) w1) :
    Calls Tryd.prog 7 #[sv (rests 0)] w fun e w' => e = .returned (.tuple #[.slice none 0 0, .int .i64 ((N : Int) + 1)]) ∧ Kp w w' := by
  have hmf : ∀ (fn : Fn) (first cap : Array Value) (w : World), (Instr.makeFunc fn first cap).run Tryd.prog w = .ok (.func fn first cap) w := fun _ _ _ _ => rfl
  have HE := Lib.hid he
  have HC := Lib.hid hC
  have H0 := Lib.hid h0
  have HPAN := Lib.hid hpan
  have HNE := Lib.hid hne
  have HCT := Lib.hid hct
  clear he hC h0 hpan hne hct
  obtain ⟨s0, hs0⟩ : ∃ s, rests 0 = s := ⟨_, rfl⟩
  rw [hs0]
  have HS0 := Lib.hid hs0
  clear hs0
  go_enter Tryd.func7, Tryd.ntmps7
  go_wp2_with fail
  go_step3
  go_wp2_with fail
  go_step3
  go_wp2_with fail
  go_loopw [0, 5] (fun v0 v5 wr => ∃ (k : Nat) (v : Value), k ≤ N ∧ v0 = sv (rests k) ∧ v5 = .int .i64 (k : Int) ∧ St k w.heap.size v wr ∧ Kp w wr) (fun _ v5 _ => N - (intOf v5).toNat)
  case atStart => exact ⟨0, _, Nat.zero_le _, by rw [HS0.out], rfl, H0.out _ _ (Nat.le_refl _) (by (repeat (first | with_reducible assumption | with_reducible exact Kp.refl _ | with_reducible refine Kp.drew ?_ | with_reducible refine Kp.drewN ?_ _ | with_reducible refine Kp.alloc ?_ _ | ((with_reducible refine Kp.setCell ?_ ?_ _); rotate_left; (focus (first | omega | (simp; done) | (simp; omega)))) | with_reducible refine Kp.trans ?_ (by assumption)))) (by (repeat (first | with_reducible assumption | ((with_reducible refine Blk.newL ?_ ?_); (focus (first | (simp; done) | omega)); rfl) | with_reducible refine Blk.drew ?_ | with_reducible refine Blk.drewN ?_ _ | with_reducible refine Blk.alloc ?_ _ | ((with_reducible refine Blk.other ?_ ?_ _); rotate_left; (focus (first | with_reducible assumption | omega | (simp; done) | (simp; omega))))))), (by (repeat (first | with_reducible assumption | with_reducible exact Kp.refl _ | with_reducible refine Kp.drew ?_ | with_reducible refine Kp.drewN ?_ _ | with_reducible refine Kp.alloc ?_ _ | ((with_reducible refine Kp.setCell ?_ ?_ _); rotate_left; (focus (first | omega | (simp; done) | (simp; omega)))) | with_reducible refine Kp.trans ?_ (by assumption))))⟩
  case round =>
    obtain ⟨k, v, hk, rfl, rfl, xs, xk⟩ := hrel
    by_cases hlt : k < N
    · obtain ⟨hne, hcut⟩ := HC.out.cut k hlt
      have CC := Lib.hid (cut_run (rests k) (HC.out.short k) wr (HE.out.kp xk))
      rw [hcut] at CC
      obtain ⟨S, hS⟩ : ∃ S, rests k = S := ⟨_, rfl⟩
      obtain ⟨R, hR⟩ : ∃ R, rests (k + 1) = R := ⟨_, rfl⟩
      rw [hR] at CC
      rw [hS] at CC hne ⊢
      have HR := Lib.hid hR
      have hq0 : (S == []) = false := beq_eq_false_iff_ne.2 hne
      have XS := Lib.hid xs
      clear hcut hS hR xs
      go_wp2_with fail
      refine CC.out.mono ?_
      rintro e w2 ⟨rfl, k2⟩
      have xs2 := HC.out.kp _ _ _ _ _ k2 XS.out
      have kw2 := xk.trans k2
      have hO2 := (HC.out.out _ _ _ _ xs2).1.lt
      clear CC XS k2 xk
      go_wp2_with fail
      have hst := HC.out.step k w.heap.size v ((w2.alloc (.cells #[sv (lines k)] 9)).alloc (.cells #[.bool false] 4)) w2.heap.size hlt (Nat.le_refl _) (by (repeat (first | with_reducible assumption | with_reducible exact Kp.refl _ | with_reducible refine Kp.drew ?_ | with_reducible refine Kp.drewN ?_ _ | with_reducible refine Kp.alloc ?_ _ | ((with_reducible refine Kp.setCell ?_ ?_ _); rotate_left; (focus (first | omega | (simp; done) | (simp; omega)))) | with_reducible refine Kp.trans ?_ (by assumption)))) (HC.out.kp _ _ _ _ _ (by (repeat (first | with_reducible assumption | with_reducible exact Kp.refl _ | with_reducible refine Kp.drew ?_ | with_reducible refine Kp.drewN ?_ _ | with_reducible refine Kp.alloc ?_ _ | ((with_reducible refine Kp.setCell ?_ ?_ _); rotate_left; (focus (first | omega | (simp; done) | (simp; omega)))) | with_reducible refine Kp.trans ?_ (by assumption)))) xs2) (by (repeat (first | with_reducible assumption | ((with_reducible refine Blk.newL ?_ ?_); (focus (first | (simp; done) | omega)); rfl) | with_reducible refine Blk.drew ?_ | with_reducible refine Blk.drewN ?_ _ | with_reducible refine Blk.alloc ?_ _ | ((with_reducible refine Blk.other ?_ ?_ _); rotate_left; (focus (first | with_reducible assumption | omega | (simp; done) | (simp; omega)))))))
      refine Calls.mono (caught_read _ _ _ (fun e w3 hq => ?_) hst) ?_
      · exact ⟨.inl hq.1, hq.2.2.2 _ _ (Blk.new _ _ _)⟩
      rintro e w4 ⟨e2, w3, ⟨rfl, ⟨v2, hs2⟩, k3, hb3⟩, ⟨_, rfl, rfl⟩ | ⟨e3, _⟩⟩
      · have hbb := hb3 _ _ (Blk.new (w2.alloc (.cells #[sv (lines k)] 9)) [.bool false] 4)
        have hs4 := HC.out.bool _ _ _ _ _ _ (.bool false) hbb hs2
        have hle := kw2.size
        have k4 : Kp w (w3.setCell ⟨(w2.alloc (.cells #[sv (lines k)] 9)).heap.size, 0, none⟩ (.bool false)) := Kp.setCell k3 (by simp; omega) _
        generalize w3.setCell ⟨(w2.alloc (.cells #[sv (lines k)] 9)).heap.size, 0, none⟩ (.bool false) = w5 at hs4 k4 ⊢
        clear hs2 hst hb3 k3 hbb xs2 hle
        go_wp2_with fail
        go_roundw
        case rel => exact ⟨k + 1, v2, by omega, by rw [HR.out], by go_num, hs4, k4⟩
        case measure => simp [intOf]; omega
      · cases e3
    · obtain rfl : k = N := by omega
      have CC := Lib.hid (cut_run (rests k) (HC.out.short k) wr (HE.out.kp xk))
      rw [HCT.out] at CC
      have hne := HNE.out
      obtain ⟨S, hS⟩ : ∃ S, rests k = S := ⟨_, rfl⟩
      rw [hS] at CC hne ⊢
      have hq0 : (S == []) = false := beq_eq_false_iff_ne.2 hne
      have XS := Lib.hid xs
      clear hS xs
      go_wp2_with fail
      refine CC.out.mono ?_
      rintro e w2 ⟨rfl, k2⟩
      have xs2 := HC.out.kp _ _ _ _ _ k2 XS.out
      have kw2 := xk.trans k2
      have hO2 := (HC.out.out _ _ _ _ xs2).1.lt
      clear CC XS k2 xk
      go_wp2_with fail
      have hst := HPAN.out w.heap.size v ((w2.alloc (.cells #[sv line] 9)).alloc (.cells #[.bool false] 4)) w2.heap.size (Nat.le_refl _) (by (repeat (first | with_reducible assumption | with_reducible exact Kp.refl _ | with_reducible refine Kp.drew ?_ | with_reducible refine Kp.drewN ?_ _ | with_reducible refine Kp.alloc ?_ _ | ((with_reducible refine Kp.setCell ?_ ?_ _); rotate_left; (focus (first | omega | (simp; done) | (simp; omega)))) | with_reducible refine Kp.trans ?_ (by assumption)))) (HC.out.kp _ _ _ _ _ (by (repeat (first | with_reducible assumption | with_reducible exact Kp.refl _ | with_reducible refine Kp.drew ?_ | with_reducible refine Kp.drewN ?_ _ | with_reducible refine Kp.alloc ?_ _ | ((with_reducible refine Kp.setCell ?_ ?_ _); rotate_left; (focus (first | omega | (simp; done) | (simp; omega)))) | with_reducible refine Kp.trans ?_ (by assumption)))) xs2) (by (repeat (first | with_reducible assumption | ((with_reducible refine Blk.newL ?_ ?_); (focus (first | (simp; done) | omega)); rfl) | with_reducible refine Blk.drew ?_ | with_reducible refine Blk.drewN ?_ _ | with_reducible refine Blk.alloc ?_ _ | ((with_reducible refine Blk.other ?_ ?_ _); rotate_left; (focus (first | with_reducible assumption | omega | (simp; done) | (simp; omega)))))))
      refine Calls.mono (caught_read _ _ _ (fun e w3 hq => ?_) hst) ?_
      · exact ⟨.inr hq.1, hq.2.2 _ _ (Blk.new _ _ _)⟩
      rintro e w4 ⟨e2, w3, ⟨rfl, k3, hb3⟩, ⟨e3, _⟩ | ⟨_, rfl, rfl⟩⟩
      · cases e3
      · have hle := kw2.size
        have k4 : Kp w ((w3.setCell ⟨(w2.alloc (.cells #[sv line] 9)).heap.size, 0, none⟩ (.bool true)).alloc (.cells #[] 83)) := Kp.alloc (Kp.setCell k3 (by simp; omega) _) _
        generalize (w3.setCell ⟨(w2.alloc (.cells #[sv line] 9)).heap.size, 0, none⟩ (.bool true)).alloc (.cells #[] 83) = w5 at k4 ⊢
        clear hst hb3 k3 xs2 hle
        go_wp2_with fail
        dsimp only [Exit.noGoto]
        refine bodyPost_ret (results_tmp2 (by rfl) _ _ _) (by rfl) ?_
        exact ⟨rfl, k4⟩
end Go.Proofs.YteadhacoglcbfaaDoor
namespace Go.Proofs.YteadhacoglcbfaaDoor

open Go.ChangeShapes Go.WideShapes Go.ChangeAt Go.RowKit Go.Shelf

theorem splitW_blank : ∀ l : List UInt8, splitW (l ++ [32]) = splitW l ++ [[]]
  | [] => by simp [splitW]
  | c :: r => by
    have ih := splitW_blank r
    rw [List.cons_append]
    conv => lhs; unfold splitW
    conv => rhs; unfold splitW
    by_cases h : c = 32
    · rw [if_pos h, if_pos h, ih]; rfl
    · rw [if_neg h, if_neg h, ih]
      obtain ⟨w, ws, e⟩ := List.exists_cons_of_ne_nil (splitW_ne r)
      rw [e]; rfl
theorem splitW_more (x : UInt8) (hx : x ≠ 32) : ∀ (l : List UInt8) {out : List (List UInt8)} {w : List UInt8}, splitW l = out ++ [w] → splitW (l ++ [x]) = out ++ [w ++ [x]]
  | [], out, w, h => by
    have hl : ([[]] : List (List UInt8)) = out ++ [w] := by simpa [splitW] using h
    obtain _ | ⟨o, out⟩ := out
    · simp at hl; subst hl; simp [splitW, hx]
    · have := congrArg List.length hl; simp at this
  | c :: r, out, w, h => by
    rw [List.cons_append]
    unfold splitW at h ⊢
    by_cases hc : c = 32
    · rw [if_pos hc] at h ⊢
      obtain _ | ⟨o, out⟩ := out
      · rw [List.nil_append] at h
        exact absurd (congrArg List.length h) (by have := List.length_pos_iff.2 (splitW_ne r); rw [List.length_cons, List.length_singleton]; omega)
      · rw [List.cons_append, List.cons.injEq] at h
        rw [splitW_more x hx r h.2, ← h.1]; rfl
    · rw [if_neg hc] at h ⊢
      obtain ⟨w1, ws, e⟩ := List.exists_cons_of_ne_nil (splitW_ne r)
      rw [e] at h
      simp only at h
      obtain _ | ⟨o, out⟩ := out
      · rw [List.nil_append, List.cons.injEq] at h
        obtain ⟨rfl, rfl⟩ := h
        rw [splitW_more x hx r (out := []) (w := w1) (by rw [e]; rfl)]
        rfl
      · rw [List.cons_append, List.cons.injEq] at h
        obtain ⟨rfl, rfl⟩ := h
        rw [splitW_more x hx r (out := w1 :: out) (w := w) (by rw [e]; rfl)]
        rfl
theorem infoStr : (Tryd.prog.info? 9).map (fun i => (i.zero, i.size, i.bytes)) = some (some (.string ByteArray.empty), 1, 16) := by kernel_rfl
theorem extract_sv (s : List UInt8) (a b : Nat) : (⟨s.toArray⟩ : ByteArray).extract a b = ⟨((s.take b).drop a).toArray⟩ := by
  apply ByteArray.ext
  rw [← Array.toArray_toList (xs := ((⟨s.toArray⟩ : ByteArray).extract a b).data), Lib.extract_data]
  simp [List.drop_take]
set_option maxRecDepth 100000 in
set_option maxHeartbeats 8000000 in
theorem words_any (s : List UInt8) (hs : s.length ≤ 10000) (w : World) :
    Calls Tryd.prog 28 #[sv s] w fun e w' => ∃ v, e = .returned v ∧ Row w' w.heap.size 9 1 encS v (splitW s) ∧ Kp w w' := by
  go_enter Tryd.func28, Tryd.ntmps28
  go_wp2_with fail
  go_loopw [3, 4, 5] (fun v3 v4 v5 wr => ∃ (i fr : Nat) (out : List (List UInt8)), i ≤ s.length ∧ v5 = .int .i64 (i : Int) ∧ v4 = .int .i64 (fr : Int) ∧ fr ≤ i ∧ splitW (s.take i) = out ++ [(s.take i).drop fr] ∧ Row wr w.heap.size 9 1 encS v3 out ∧ Kp w wr) (fun _ _ v5 _ => s.length - (intOf v5).toNat)
  case atStart => exact ⟨0, 0, [], Nat.zero_le _, rfl, rfl, Nat.le_refl _, rfl, Row.nil _ _ _ _ _, (by (repeat (first | with_reducible assumption | with_reducible exact Kp.refl _ | with_reducible refine Kp.drew ?_ | with_reducible refine Kp.drewN ?_ _ | with_reducible refine Kp.alloc ?_ _ | ((with_reducible refine Kp.setCell ?_ ?_ _); rotate_left; (focus (first | omega | (simp; done) | (simp; omega)))) | with_reducible refine Kp.trans ?_ (by assumption))))⟩
  case round =>
    obtain ⟨i, fr, out, hi, rfl, rfl, hfr, hsp, xr, xk⟩ := hrel
    have hol := congrArg List.length hsp
    have hwl := splitW_len (s.take i)
    rw [List.length_append, List.length_singleton] at hol
    have htl : (s.take i).length ≤ s.length := by rw [List.length_take]; omega
    by_cases hlt : i < s.length
    · obtain ⟨c, hc⟩ : ∃ c, s[i]? = some c := ⟨s[i], List.getElem?_eq_getElem hlt⟩
      have ht : s.take (i + 1) = s.take i ++ [c] := by rw [List.take_add_one, hc]; rfl
      have ji : decide ((i : Int) < (s.length : Int)) = true := decide_eq_true (by omega)
      have hsz : (⟨s.toArray⟩ : ByteArray).size = s.length := size_sv s
      have hcg : (⟨s.toArray⟩ : ByteArray)[i]'(by rw [hsz]; exact hlt) = c := (List.getElem?_eq_some_iff.1 hc).2
      obtain ⟨v3, c3, rfl, _⟩ := xr.sl (fun _ => rfl)
      by_cases h32 : c = 32
      · have e32 : ((c.toNat : Int) == 32) = true := by subst h32; rfl
        obtain ⟨X, hX⟩ : ∃ X, (s.take i).drop fr = X := ⟨_, rfl⟩
        have hex : (⟨s.toArray⟩ : ByteArray).extract fr i = ⟨X.toArray⟩ := by rw [extract_sv, hX]
        rw [hX] at hsp
        have HN : Hid (splitW (s.take (i + 1)) = (out ++ [X]) ++ [(s.take (i + 1)).drop (i + 1)]) := Lib.hid (by
          rw [ht, h32, splitW_blank, hsp]
          congr 1
          rw [List.drop_of_length_le (by rw [List.length_append, List.length_take, List.length_singleton]; omega)])
        clear ht hsp hX hc h32
        go_wp2_with (at_builtin; go_loud (refine rowAppend ?gd (.tmp 16) (.tmp 21) 63 ?ho Tryd.underlying63 infoStr rfl (by decide) (xr.alloc (.cells #[sv X] 9)) ?hs (y := X) rfl ?h1 (Blk.new _ _ 9) ?hx ?hl ?hb ?hz ?_; (case gd => rfl); (case ho => rfl); (case hs => rfl); (case h1 => simp [encS, Value.oneCell']); (case hx => rfl); (case hl => unfold maxLen; omega); (case hb => omega); (case hz => exact Nat.le_trans xk.size (by simp)); intro v' w5 hr5 kp5 oth5 sz5 hne5))
        have k5 := kp5 (Nat.le_refl _) (xk.alloc (.cells #[sv X] 9))
        go_wp2_with fail
        go_roundw
        case rel => exact ⟨i + 1, i + 1, out ++ [X], by omega, by go_num, by go_num, Nat.le_refl _, HN.out, hr5, k5⟩
        case measure => simp [intOf]; omega
      · have e32 : ((c.toNat : Int) == 32) = false := beq_eq_false_iff_ne.2 (fun e => h32 (UInt8.toNat_inj.1 (by have : (32 : UInt8).toNat = 32 := rfl; omega)))
        have HN : Hid (splitW (s.take (i + 1)) = out ++ [(s.take (i + 1)).drop fr]) := Lib.hid (by
          rw [ht, splitW_more c h32 _ hsp, List.drop_append_of_le_length (by rw [List.length_take]; omega)])
        clear ht hsp hc h32
        go_wp2_with fail
        go_roundw
        case rel => exact ⟨i + 1, fr, out, by omega, by go_num, rfl, by omega, HN.out, xr, xk⟩
        case measure => simp [intOf]; omega
    · obtain rfl : i = s.length := by omega
      have ji : decide ((s.length : Int) < (s.length : Int)) = false := decide_eq_false (by omega)
      have hsz : (⟨s.toArray⟩ : ByteArray).size = s.length := size_sv s
      obtain ⟨v3, c3, rfl, _⟩ := xr.sl (fun _ => rfl)
      obtain ⟨X, hX⟩ : ∃ X, (s.take s.length).drop fr = X := ⟨_, rfl⟩
      have hex : (⟨s.toArray⟩ : ByteArray).extract fr s.length = ⟨X.toArray⟩ := by rw [extract_sv, hX]
      rw [hX, List.take_length] at hsp
      have HSP := Lib.hid hsp
      clear hsp hX
      go_wp2_with (at_builtin; go_loud (refine rowAppend ?gd (.tmp 25) (.tmp 29) 63 ?ho Tryd.underlying63 infoStr rfl (by decide) (xr.alloc (.cells #[sv X] 9)) ?hs (y := X) rfl ?h1 (Blk.new _ _ 9) ?hx ?hl ?hb ?hz ?_; (case gd => rfl); (case ho => rfl); (case hs => rfl); (case h1 => simp [encS, Value.oneCell']); (case hx => rfl); (case hl => unfold maxLen; omega); (case hb => omega); (case hz => exact Nat.le_trans xk.size (by simp)); intro v' w5 hr5 kp5 oth5 sz5 hne5))
      have k5 := kp5 (Nat.le_refl _) (xk.alloc (.cells #[sv X] 9))
      go_wp2_with fail
      (try go_ret)
      exact ⟨_, rfl, by rw [HSP.out]; exact hr5, k5⟩
end Go.Proofs.YteadhacoglcbfaaDoor
namespace Go.Proofs.YteadhacoglcbfaaDoor

open Go.ChangeShapes Go.WideShapes Go.ChangeAt Go.RowKit Go.Shelf

def lowL : List UInt8 → Bool
  | [] => false
  | c :: _ => c == 45
def valueStep (low : Bool) (n : Int) (c : UInt8) : Int :=
  if 48 ≤ c.toNat ∧ c.toNat ≤ 57 then IntKind.i64.wrap (IntKind.i64.wrap (n * 10) + (if low then -((c.toNat : Int) - 48) else (c.toNat : Int) - 48)) else n
def valueL (s : List UInt8) : Int := (s.take 20).foldl (valueStep (lowL s)) 0
theorem step_i64 {low : Bool} {n : Int} (h : I64 n) (c : UInt8) : I64 (valueStep low n c) := by
  unfold valueStep
  split
  · rw [IntKind.wrap_i64]; unfold I64; omega
  · exact h
theorem fold_i64 (low : Bool) : ∀ (l : List UInt8) (n : Int), I64 n → I64 (l.foldl (valueStep low) n)
  | [], _, h => h
  | c :: l, _, h => fold_i64 low l _ (step_i64 h c)
theorem valueL_i64 (s : List UInt8) : I64 (valueL s) := fold_i64 _ _ _ (by unfold I64; omega)
theorem fold_dec (low : Bool) : ∀ (u : Nat), (if low then u ≤ 9223372036854775808 else u ≤ 9223372036854775807) → (Lib.decDigits u).foldl (valueStep low) 0 = if low then -(u : Int) else (u : Int) := by
  intro u
  induction u using Nat.strongRecOn with
  | _ u ih =>
    intro hu
    have step : ∀ (n : Int) (d : Nat), d < 10 → I64 (n * 10) → I64 (n * 10 + (if low then -(d : Int) else (d : Int))) → valueStep low n (UInt8.ofNat (48 + d)) = n * 10 + (if low then -(d : Int) else (d : Int)) := fun n d hd h1 h2 => by
      have e : (UInt8.ofNat (48 + d)).toNat = 48 + d := by rw [UInt8.toNat_ofNat']; omega
      unfold valueStep
      rw [e, if_pos (by omega)]
      unfold I64 at h1 h2
      have w1 : IntKind.i64.wrap (n * 10) = n * 10 := by rw [IntKind.wrap_i64]; omega
      have e2 : ((48 + d : Nat) : Int) - 48 = d := by omega
      rw [w1, e2]
      rw [IntKind.wrap_i64]; omega
    rw [Lib.decDigits]
    split
    · rename_i h
      rw [List.foldl_cons, List.foldl_nil, step 0 u h (by unfold I64; omega) (by unfold I64; cases low <;> simp <;> omega)]
      omega
    · rename_i h
      rw [List.foldl_append, List.foldl_cons, List.foldl_nil, ih (u / 10) (by omega) (by cases low <;> simp at hu ⊢ <;> omega)]
      cases low
      · simp only [Bool.false_eq_true, if_false] at hu step ⊢
        rw [step _ (u % 10) (by omega) (by unfold I64; omega) (by unfold I64; omega)]
        omega
      · simp only [if_true] at hu step ⊢
        rw [step _ (u % 10) (by omega) (by unfold I64; omega) (by unfold I64; omega)]
        omega
theorem dec_19 {u : Nat} (h : u < 10 ^ 19) : (Lib.decDigits u).length ≤ 19 := by
  have nd : ∀ (k u : Nat), u < 10 ^ (k + 1) → Lib.nDigits u ≤ k + 1 := by
    intro k
    induction k with
    | zero => intro u hu; rw [Lib.nDigits_small (by omega)]; exact Nat.le_refl _
    | succ k ih =>
      intro u hu
      by_cases h : u < 10
      · rw [Lib.nDigits_small h]; omega
      · rw [Lib.nDigits_big h]
        have := ih (u / 10) (by rw [Nat.pow_succ] at hu; omega)
        omega
  rw [Lib.decDigits_length]; exact nd 18 u h
theorem itoa_20 {n : Int} (h : I64 n) : (Lib.itoa n).length ≤ 20 := by
  obtain ⟨h0, h1⟩ := h
  unfold Lib.itoa
  split
  · rw [List.length_cons]
    have := dec_19 (u := n.natAbs) (by omega)
    omega
  · have := dec_19 (u := n.toNat) (by omega)
    omega
theorem value_itoa {v : Int} (h : I64 v) : valueL (Lib.itoa v) = v := by
  have hs := itoa_20 h
  unfold valueL
  rw [List.take_of_length_le hs]
  clear hs
  unfold I64 at h
  unfold Lib.itoa
  by_cases hv : v < 0
  · rw [if_pos hv]
    show (45 :: Lib.decDigits v.natAbs).foldl (valueStep true) 0 = v
    have e45 : valueStep true 0 45 = 0 := rfl
    rw [List.foldl_cons, e45, fold_dec true v.natAbs (by simp; omega)]
    simp only [if_true]; omega
  · rw [if_neg hv]
    have hl : lowL (Lib.decDigits v.toNat) = false := by
      obtain ⟨c, r, e⟩ := List.exists_cons_of_ne_nil (dec_ne v.toNat)
      have hc := dec_byte (u := v.toNat) (c := c) (by rw [e]; exact List.mem_cons_self)
      rw [e]
      show (c == 45) = false
      rw [beq_eq_false_iff_ne]
      intro e2
      rw [e2] at hc
      have : (45 : UInt8).toNat = 45 := rfl
      omega
    rw [hl, fold_dec false v.toNat (by simp; omega)]
    simp only [Bool.false_eq_true, if_false]; omega
set_option maxRecDepth 100000 in
set_option maxHeartbeats 8000000 in
theorem value_any (s : List UInt8) (hs : s.length ≤ 10000) (w : World) :
    Calls Tryd.prog 45 #[sv s] w fun e w' => e = .returned (.int .i64 (valueL s)) ∧ Kp w w' := by
  have hsz : (⟨s.toArray⟩ : ByteArray).size = s.length := size_sv s
  obtain ⟨low, hlow⟩ : ∃ low, lowL s = low := ⟨_, rfl⟩
  have hfirst : s = [] ∨ ∃ (c : UInt8) (h0 : 0 < (⟨s.toArray⟩ : ByteArray).size), (⟨s.toArray⟩ : ByteArray)[0]'h0 = c ∧ ((c.toNat : Int) == 45) = low ∧ decide (0 < s.length) = true := by
    rcases hs0 : s with _ | ⟨c, r⟩
    · exact .inl rfl
    · subst hs0
      refine .inr ⟨c, by rw [size_sv]; simp, rfl, ?_, by simp⟩
      rw [← hlow]
      show ((c.toNat : Int) == 45) = (c == 45)
      by_cases h : c = 45
      · subst h; rfl
      · have e : ¬ (c.toNat : Int) = 45 := fun e => h (UInt8.toNat_inj.1 (by have : (45 : UInt8).toNat = 45 := rfl; omega))
        rw [beq_eq_false_iff_ne.2 h, beq_eq_false_iff_ne.2 e]
  have hv : valueL s = (s.take 20).foldl (valueStep low) 0 := by unfold valueL; rw [hlow]
  rw [hv]
  rcases hfirst with rfl | ⟨c0, h00, hc0, hl0, hp0⟩
  · go_enter Tryd.func45, Tryd.ntmps45
    go_wp2_with fail
    go_loopw [3, 5] (fun v3 v5 wr => v3 = .int .i64 0 ∧ v5 = .int .i64 0 ∧ Kp w wr) (fun _ _ _ => 0)
    case atStart => exact ⟨rfl, rfl, (by (repeat (first | with_reducible assumption | with_reducible exact Kp.refl _ | with_reducible refine Kp.drew ?_ | with_reducible refine Kp.drewN ?_ _ | with_reducible refine Kp.alloc ?_ _ | ((with_reducible refine Kp.setCell ?_ ?_ _); rotate_left; (focus (first | omega | (simp; done) | (simp; omega)))) | with_reducible refine Kp.trans ?_ (by assumption))))⟩
    case round =>
      obtain ⟨rfl, rfl, xk⟩ := hrel
      go_wp2_with fail
      (try go_ret)
      exact ⟨rfl, xk⟩
  · clear hlow hv
    go_enter Tryd.func45, Tryd.ntmps45
    go_wp2_with fail
    go_loopw [3, 5] (fun v3 v5 wr => ∃ i : Nat, i ≤ s.length ∧ i ≤ 20 ∧ v5 = .int .i64 (i : Int) ∧ v3 = .int .i64 ((s.take i).foldl (valueStep low) 0) ∧ Kp w wr) (fun _ v5 _ => s.length - (intOf v5).toNat)
    case atStart => exact ⟨0, Nat.zero_le _, by omega, rfl, rfl, (by (repeat (first | with_reducible assumption | with_reducible exact Kp.refl _ | with_reducible refine Kp.drew ?_ | with_reducible refine Kp.drewN ?_ _ | with_reducible refine Kp.alloc ?_ _ | ((with_reducible refine Kp.setCell ?_ ?_ _); rotate_left; (focus (first | omega | (simp; done) | (simp; omega)))) | with_reducible refine Kp.trans ?_ (by assumption))))⟩
    case round =>
      obtain ⟨i, hi, hi2, rfl, rfl, xk⟩ := hrel
      by_cases hlt : i < s.length
      · have ji : decide ((i : Int) < (s.length : Int)) = true := decide_eq_true (by omega)
        by_cases h20 : i < 20
        · have jj : decide ((i : Int) < 20) = true := decide_eq_true (by omega)
          have jj' : decide (i < 20) = true := decide_eq_true h20
          obtain ⟨c, hc⟩ : ∃ c, s[i]? = some c := ⟨s[i], List.getElem?_eq_getElem hlt⟩
          have hcg : (⟨s.toArray⟩ : ByteArray)[i]'(by rw [hsz]; exact hlt) = c := (List.getElem?_eq_some_iff.1 hc).2
          have ht : (s.take (i + 1)).foldl (valueStep low) 0 = valueStep low ((s.take i).foldl (valueStep low) 0) c := by rw [List.take_add_one, hc, List.foldl_append]; rfl
          obtain ⟨n, hn⟩ : ∃ n, (s.take i).foldl (valueStep low) 0 = n := ⟨_, rfl⟩
          rw [hn] at ht ⊢
          by_cases hd : 48 ≤ c.toNat ∧ c.toNat ≤ 57
          · have t1 : decide ((48 : Int) ≤ (c.toNat : Int)) = true := decide_eq_true (by omega)
            have t1' : decide (48 ≤ c.toNat) = true := decide_eq_true (by omega)
            have t2 : decide ((c.toNat : Int) ≤ 57) = true := decide_eq_true (by omega)
            have t2' : decide (c.toNat ≤ 57) = true := decide_eq_true (by omega)
            obtain ⟨d, hdd⟩ : ∃ d : Int, (c.toNat : Int) - 48 = d := ⟨_, rfl⟩
            have u1 : IntKind.u8.wrap d = d := by rw [IntKind.wrap_u8]; omega
            have u2 : IntKind.i64.wrap d = d := by rw [IntKind.wrap_i64]; omega
            have u3 : IntKind.i64.wrap (-d) = -d := by rw [IntKind.wrap_i64]; omega
            have hst : valueStep low n c = IntKind.i64.wrap (IntKind.i64.wrap (n * 10) + (if low then -d else d)) := by unfold valueStep; rw [if_pos hd, hdd]
            rw [hst, IntKind.wrap_i64, IntKind.wrap_i64] at ht
            have HT := Lib.hid ht
            clear hst
            clear ht hn hd hc
            cases low
            · go_wp2_with fail
              go_roundw
              case rel => exact ⟨i + 1, by omega, by omega, by go_num, by rw [HT.out]; simp [wrap64], xk⟩
              case measure => simp [intOf]; omega
            · go_wp2_with fail
              go_roundw
              case rel => exact ⟨i + 1, by omega, by omega, by go_num, by rw [HT.out]; simp [wrap64], xk⟩
              case measure => simp [intOf]; omega
          · have hst : valueStep low n c = n := by unfold valueStep; rw [if_neg hd]
            rw [hst] at ht
            have HT := Lib.hid ht
            clear hst
            by_cases hd1 : 48 ≤ c.toNat
            · have t1 : decide ((48 : Int) ≤ (c.toNat : Int)) = true := decide_eq_true (by omega)
              have t1' : decide (48 ≤ c.toNat) = true := decide_eq_true (by omega)
              have t2 : decide ((c.toNat : Int) ≤ 57) = false := decide_eq_false (by omega)
              have t2' : decide (c.toNat ≤ 57) = false := decide_eq_false (by omega)
              clear ht hn hd hc hd1
              go_wp2_with fail
              go_roundw
              case rel => exact ⟨i + 1, by omega, by omega, by go_num, by rw [HT.out], xk⟩
              case measure => simp [intOf]; omega
            · have t1 : decide ((48 : Int) ≤ (c.toNat : Int)) = false := decide_eq_false (by omega)
              have t1' : decide (48 ≤ c.toNat) = false := decide_eq_false (by omega)
              clear ht hn hd hc hd1
              go_wp2_with fail
              go_roundw
              case rel => exact ⟨i + 1, by omega, by omega, by go_num, by rw [HT.out], xk⟩
              case measure => simp [intOf]; omega
        · obtain rfl : i = 20 := by omega
          have jj : decide (20 < s.length) = true := decide_eq_true hlt
          go_wp2_with fail
          (try go_ret)
          exact ⟨rfl, xk⟩
      · obtain rfl : i = s.length := by omega
        have ji : decide ((s.length : Int) < (s.length : Int)) = false := decide_eq_false (by omega)
        have e : s.take s.length = s.take 20 := by rw [List.take_length, List.take_of_length_le (by omega)]
        rw [e]
        go_wp2_with fail
        (try go_ret)
        exact ⟨rfl, xk⟩
end Go.Proofs.YteadhacoglcbfaaDoor
namespace Go.Proofs.YteadhacoglcbfaaDoor

open Go.ChangeShapes Go.WideShapes Go.ChangeAt Go.RowKit Go.Shelf

def valsL (s : List UInt8) : List Int := (splitW s).tail.map valueL
def numsL (s : List UInt8) : List Int := valsL s ++ List.replicate (6 - (valsL s).length) 0
def lenV : Value → Nat
  | .slice _ n _ => n
  | _ => 0
theorem Row.low {α : Type} {w : World} {base base' n : Nat} {e : TypeId} {enc : α → List Value} {v : Value} {l : List α} (h : Row w base e n enc v l) (hb : base' ≤ base) : Row w base' e n enc v l := by
  refine ⟨h.1, ?_⟩
  rcases h.2 with hh | ⟨g, cap, cur, rfl, hg, rest⟩
  · exact .inl hh
  · exact .inr ⟨g, cap, cur, rfl, Nat.le_trans hb hg, rest⟩
theorem infoInt : (Tryd.prog.info? 3).map (fun i => (i.zero, i.size, i.bytes)) = some (some (.int .i64 0), 1, 8) := by kernel_rfl
set_option maxRecDepth 100000 in
set_option maxHeartbeats 8000000 in
theorem nums_any (s : List UInt8) (hs : s.length ≤ 10000) (w : World) :
    Calls Tryd.prog 27 #[sv s] w fun e w' => ∃ v, e = .returned v ∧ Row w' w.heap.size 3 1 enc1 v (numsL s) ∧ Kp w w' := by
  have hwl := splitW_len s
  have HSH := Lib.hid (fun x hx => splitW_short (s := s) (x := x) hx)
  have HNE := Lib.hid (splitW_ne s)
  have hvl : valsL s = ((splitW s).drop 1).map valueL := by unfold valsL; rw [List.drop_one]
  have CW := Lib.hid (words_any s hs w)
  obtain ⟨ws, hws⟩ : ∃ ws, splitW s = ws := ⟨_, rfl⟩
  rw [hws] at hwl HSH HNE hvl CW
  unfold numsL
  have hpos := List.length_pos_iff.2 HNE.out
  obtain ⟨V, hV⟩ : ∃ V, valsL s = V := ⟨_, rfl⟩
  rw [hV] at hvl ⊢
  have hVl : V.length + 1 = ws.length := by rw [hvl, List.length_map, List.length_drop]; omega
  have HVL := Lib.hid hvl
  clear hws hV hvl
  go_enter Tryd.func27, Tryd.ntmps27
  go_wp2_with fail
  refine CW.out.mono ?_
  rintro e w1 ⟨v1, rfl, hr1, k1⟩
  obtain ⟨a1, c1, rfl, s1'⟩ := hr1.sl (fun _ => rfl)
  have m1 := s1'.2.1
  have m2 := s1'.2.2.1
  unfold maxLen at m2
  have HS1 := Lib.hid s1'
  clear hr1 s1' CW
  go_wp2_with fail
  go_loopw [4, 5] (fun v4 v5 wr => ∃ i : Nat, 1 ≤ i ∧ i ≤ ws.length ∧ v5 = .int .i64 (i : Int) ∧ Row wr w1.heap.size 3 1 enc1 v4 (((ws.take i).drop 1).map valueL) ∧ Kp w1 wr) (fun _ v5 _ => ws.length - (intOf v5).toNat)
  case atStart => exact ⟨1, Nat.le_refl _, hpos, rfl, by rw [List.drop_of_length_le (by rw [List.length_take]; omega)]; exact Row.nil _ _ _ _ _, (by (repeat (first | with_reducible assumption | with_reducible exact Kp.refl _ | with_reducible refine Kp.drew ?_ | with_reducible refine Kp.drewN ?_ _ | with_reducible refine Kp.alloc ?_ _ | ((with_reducible refine Kp.setCell ?_ ?_ _); rotate_left; (focus (first | omega | (simp; done) | (simp; omega)))) | with_reducible refine Kp.trans ?_ (by assumption))))⟩
  case round =>
    obtain ⟨i, hi1, hi, rfl, xr, xk⟩ := hrel
    have hsz1 := xk.size
    by_cases hlt : i < ws.length
    · obtain ⟨x, hx⟩ : ∃ x, ws[i]? = some x := ⟨ws[i], List.getElem?_eq_getElem hlt⟩
      have hxs := HSH.out x (List.mem_of_getElem? hx)
      obtain ⟨ga, go, rfl, hga, r1⟩ : ∃ b off, a1 = some ⟨b, off, none⟩ ∧ b < wr.heap.size ∧ RowAt wr 1 encS b off ws := by
        have t := HS1.out.kp xk
        rcases t.2.2.2 with e | ⟨b, off, e, h1, h2⟩
        · rw [e] at hlt; simp at hlt
        · exact ⟨b, off, e, h1, h2⟩
      have d0 := r1 i _ hx 0 _ rfl
      simp only [Nat.add_zero, Nat.mul_one] at d0
      have ji : decide ((i : Int) < (ws.length : Int)) = true := decide_eq_true (by omega)
      have hll : (((ws.take i).drop 1).map valueL).length = i - 1 := by rw [List.length_map, List.length_drop, List.length_take]; omega
      have hnext : ((ws.take (i + 1)).drop 1).map valueL = ((ws.take i).drop 1).map valueL ++ [valueL x] := by
        rw [List.take_add_one, hx, Option.toList_some, List.drop_append_of_le_length (by rw [List.length_take]; omega), List.map_append]; rfl
      obtain ⟨O, hO⟩ : ∃ O, ((ws.take i).drop 1).map valueL = O := ⟨_, rfl⟩
      rw [hO] at hll hnext xr
      have HLL := Lib.hid hll
      have HNX := Lib.hid hnext
      obtain ⟨v4, c4, rfl, _⟩ := xr.sl (fun _ => rfl)
      have CV := Lib.hid (fun w' => value_any x (by omega) w')
      obtain ⟨y, hy⟩ : ∃ y, valueL x = y := ⟨_, rfl⟩
      rw [hy] at CV HNX
      have XR := Lib.hid xr
      clear r1 hx hO hll hnext hy xr
      go_wp2_with fail
      refine (CV.out _).mono ?_
      rintro e w3 ⟨rfl, k3⟩
      have xk3 := xk.trans k3
      have xr3 := XR.out.kp k3
      clear CV XR
      go_wp2_with (at_builtin; go_loud (refine rowAppend ?gd (.tmp 14) (.tmp 20) 61 ?ho Tryd.underlying61 infoInt rfl (by decide) (xr3.alloc (.cells #[.int .i64 y] 3)) ?hs (y := y) rfl ?h1 (Blk.new _ _ 3) ?hx ?hl ?hb ?hz ?_; (case gd => rfl); (case ho => rfl); (case hs => rfl); (case h1 => simp [enc1, Value.oneCell']); (case hx => rfl); (case hl => have := HLL.out; unfold maxLen; omega); (case hb => have := HLL.out; omega); (case hz => exact Nat.le_trans hsz1 (Nat.le_trans k3.size (by simp))); intro v' w5 hr5 kp5 oth5 sz5 hne5))
      have k5 := kp5 (Nat.le_refl _) (xk3.alloc (.cells #[.int .i64 y] 3))
      rw [← HNX.out] at hr5
      go_wp2_with fail
      go_roundw
      case rel => exact ⟨i + 1, by omega, by omega, by go_num, hr5, k5⟩
      case measure => simp [intOf]; omega
    · obtain rfl : i = ws.length := by omega
      have ji : decide ((ws.length : Int) < (ws.length : Int)) = false := decide_eq_false (by omega)
      rw [List.take_length, ← HVL.out] at xr
      have XR := Lib.hid xr
      obtain ⟨wo, rfl⟩ : ∃ u, u = wr := ⟨_, rfl⟩
      clear xr
      go_wp2_with fail
      go_loopw [4] (fun v4 wr' => ∃ (j : Nat) (a4 : Option Addr) (c4 : Nat), v4 = .slice a4 (V.length + j) c4 ∧ (j = 0 ∨ V.length + j ≤ 6) ∧ Row wr' w1.heap.size 3 1 enc1 v4 (V ++ List.replicate j 0) ∧ Kp w1 wr') (fun v4 _ => 6 - lenV v4)
      case atStart =>
        obtain ⟨a4, c4, e, _⟩ := XR.out.sl (fun _ => rfl)
        exact ⟨0, a4, c4, e, .inl rfl, by rw [List.replicate_zero, List.append_nil]; exact XR.out, (by (repeat (first | with_reducible assumption | with_reducible exact Kp.refl _ | with_reducible refine Kp.drew ?_ | with_reducible refine Kp.drewN ?_ _ | with_reducible refine Kp.alloc ?_ _ | ((with_reducible refine Kp.setCell ?_ ?_ _); rotate_left; (focus (first | omega | (simp; done) | (simp; omega)))) | with_reducible refine Kp.trans ?_ (by assumption))))⟩
      case round =>
        obtain ⟨j, a4, c4, rfl, hj, zr, zk⟩ := hrel
        have hzl : (V ++ List.replicate j (0 : Int)).length = V.length + j := by rw [List.length_append, List.length_replicate]
        have hnx : V ++ List.replicate (j + 1) (0 : Int) = (V ++ List.replicate j 0) ++ [0] := by rw [List.replicate_succ', List.append_assoc]
        have zs := zk.size
        obtain ⟨Z, hZ⟩ : ∃ Z, V ++ List.replicate j (0 : Int) = Z := ⟨_, rfl⟩
        rw [hZ] at zr hzl hnx
        have HZL := Lib.hid hzl
        have HNZ := Lib.hid hnx
        have HZ := Lib.hid hZ
        obtain ⟨m, hm⟩ : ∃ m, V.length + j = m := ⟨_, rfl⟩
        rw [hm] at HZL ⊢
        rw [hm] at zr hj
        clear hzl hnx hZ
        by_cases h6 : m < 6
        · have j6 : decide ((m : Int) < 6) = true := decide_eq_true (by omega)
          have j6' : decide (m < 6) = true := decide_eq_true h6
          go_wp2_with (at_builtin; go_loud (refine rowAppend ?gd (.tmp 25) (.tmp 26) 61 ?ho Tryd.underlying61 infoInt rfl (by decide) (zr.alloc (.cells #[.int .i64 0] 3)) ?hs (y := 0) rfl ?h1 (Blk.new _ _ 3) ?hx ?hl ?hb ?hz ?_; (case gd => rfl); (case ho => rfl); (case hs => rfl); (case h1 => simp [enc1, Value.oneCell']); (case hx => rfl); (case hl => have := HZL.out; unfold maxLen; omega); (case hb => have := HZL.out; omega); (case hz => exact Nat.le_trans zs (by simp)); intro v' w5 hr5 kp5 oth5 sz5 hne5))
          have k5 := kp5 (Nat.le_refl _) (zk.alloc (.cells #[.int .i64 0] 3))
          rw [← HNZ.out] at hr5
          obtain ⟨a5, c5, e5, _⟩ := hr5.sl (fun _ => rfl)
          have hl5 : (V ++ List.replicate (j + 1) (0 : Int)).length = V.length + (j + 1) := by rw [List.length_append, List.length_replicate]
          rw [hl5] at e5
          have hm6 : lenV v' = m + 1 := by rw [e5]; show V.length + (j + 1) = m + 1; omega
          have HM6 := Lib.hid hm6
          clear hl5 hm6
          go_wp2_with fail
          go_roundw
          case rel => exact ⟨j + 1, a5, c5, e5, .inr (by omega), hr5, k5⟩
          case measure => rw [HM6.out]; show 6 - (m + 1) < 6 - m; omega
        · have j6 : decide ((m : Int) < 6) = false := decide_eq_false (by omega)
          have j6' : decide (m < 6) = false := decide_eq_false h6
          have hj6 : 6 - V.length = j := by omega
          rw [← HZ.out] at zr
          have ZR := Lib.hid (zr.low k1.size)
          clear zr
          go_wp2_with fail
          (try go_ret)
          exact ⟨_, rfl, by rw [hj6]; exact ZR.out, k1.trans zk⟩
end Go.Proofs.YteadhacoglcbfaaDoor
