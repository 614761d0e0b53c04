/- The law TotalSums: the walk. -/
import Derived.Test.YtfiofmlfceknaaaTotSum
import Derived.Test.YtfiofmlfceknaaaTotLaws
namespace Go.Proofs.Ytfiofmlfceknaaa
open Go.ChangeShapes Go.WideShapes Go.ChangeAt Go.RowKit

set_option maxRecDepth 100000 in
theorem Open.open_totals {H : Type} {enc : TypeId × Value → H} {w : World} {r : Reach} {b0 : Nat} {v : Value} {d : DataW H} {p : List MemPlace}
    (hv : Value.okWide Try.prog w r b0 47 v) (h : DataW.Trod enc Try.prog w 0 (fun _ => true) true 47 v d p) : ∃ x : SlV Tot, v = x.v ∧ (SlOk w 6 Tot.cells x.a x.len x.cap x.l ∧ ∀ y, y ∈ x.l → Tot.ok y) := by
  have hc : Try.prog.cellsOf 32 = 6 := by kernel_rfl
  obtain ⟨a, len, cap, l, hv', hs, ho⟩ := Open.open_sl 4 Try.underlying47 hc (by decide) Open.flat_tot (ok := Tot.ok) (fun cs hcs => Tot.of_cells hcs) hv h
  exact ⟨⟨a, len, cap, l⟩, hv', hs, ho⟩

set_option maxHeartbeats 1000000 in
theorem eqRes7 (d : Nat) (w : World) (a0 a1 a2 a3 a4 a5 b0 b1 b2 b3 b4 b5 : Int) (p q : Bool) :
    (Op.equalIn (d + 4) 41 (.agg #[.int .i64 a0, .int .i64 a1, .int .i64 a2, .int .i64 a3, .int .i64 a4, .int .i64 a5, .bool p]) (.agg #[.int .i64 b0, .int .i64 b1, .int .i64 b2, .int .i64 b3, .int .i64 b4, .int .i64 b5, .bool q])).run Try.prog w = .ok ((a0 == b0 && ((a1 == b1 && (a2 == b2 && (a3 == b3 && a4 == b4))) && a5 == b5)) && (p == q)) w := by
  have e := @eqTot
  have hu := Try.underlying41
  go_simp
  clear e hu
  by_cases h : (a0 == b0 && ((a1 == b1 && (a2 == b2 && (a3 == b3 && a4 == b4))) && a5 == b5)) = true <;> cases p <;> cases q <;> simp_all

set_option maxRecDepth 100000 in
set_option maxHeartbeats 1000000 in
theorem totalSums_any (s : SlV Tot) (w : World) (hs : SlOk w 6 Tot.cells s.a s.len s.cap s.l ∧ ∀ y, y ∈ s.l → Tot.ok y) :
    Calls Try.prog 7 #[s.v] w fun e w' => e = .returned (.bool true) ∧ Kp w w' := by
  obtain ⟨a, len, cap, l⟩ := s
  obtain ⟨hl, ho⟩ := hs
  simp only [SlV.v] at *
  have hm := hl.2.2.1
  have hc := hl.2.1
  unfold maxLen at hm
  have HO := Lib.hid ho; clear ho
  by_cases hlen : len > 60
  · go_enter Try.func7, Try.ntmps7
    go_wp2_with (go_at_call 33; refine (totAwake_any _).mono ?_; rintro e w' ⟨rfl, kk⟩)
    go_ret
    exact ⟨rfl, (by (repeat (first | with_reducible assumption | with_reducible exact Kp.refl _ | with_reducible refine Kp.drew ?_ | with_reducible refine Kp.drewN ?_ _ | with_reducible refine Kp.alloc ?_ _ | ((with_reducible refine Kp.setCell ?_ ?_ _); rotate_left; (focus (first | omega | (simp; done) | (simp; omega)))) | with_reducible refine Kp.trans ?_ (by assumption))))⟩
  · go_enter Try.func7, Try.ntmps7
    go_wp2_with fail
    refine (totSum_any _ _ _ _ _ hl HO.out).mono ?_
    rintro e w1 ⟨rfl, k1⟩
    have hl1 := hl.kp k1
    generalize hS : (sums Tot.zero l).getD Tot.zero = S
    have HS := Lib.hid hS; clear hS
    obtain ⟨t0, t1, t2, t3, t4, t5⟩ := S
    have eT := @eqRes7
    go_wp2_with fail
    
    refine named_world (F := fun w2 => Blk w2 w1.heap.size (ints [t0, t1, t2, t3, t4, t5]) 32 ∧ Kp w1 w2) ⟨(by (repeat (first | with_reducible assumption | ((with_reducible refine Blk.newL ?_ ?_); (focus (first | (simp; done) | omega)); rfl) | with_reducible refine Blk.drew ?_ | with_reducible refine Blk.drewN ?_ _ | with_reducible refine Blk.alloc ?_ _ | ((with_reducible refine Blk.other ?_ ?_ _); rotate_left; (focus (first | with_reducible assumption | omega | (simp; done) | (simp; omega))))))), (by (repeat (first | with_reducible assumption | with_reducible exact Kp.refl _ | with_reducible refine Kp.drew ?_ | with_reducible refine Kp.drewN ?_ _ | with_reducible refine Kp.alloc ?_ _ | ((with_reducible refine Kp.setCell ?_ ?_ _); rotate_left; (focus (first | omega | (simp; done) | (simp; omega)))) | with_reducible refine Kp.trans ?_ (by assumption))))⟩ ?_; rintro w2 ⟨xs, kw2⟩; have xs_0 := xs.cell 0 rfl; have xs_1 := xs.cell 1 rfl; have xs_2 := xs.cell 2 rfl; have xs_3 := xs.cell 3 rfl; have xs_4 := xs.cell 4 rfl; have xs_5 := xs.cell 5 rfl; have xs_ne := xs.lt; have xs_n1 := Nat.lt_add_one_of_lt xs_ne; have xs_n2 := Nat.lt_add_one_of_lt xs_n1
    have hl2 := hl1.kp kw2
    go_region_held3 (fun w' => (∀ b o, b < w2.heap.size → w'.cell? ⟨b, o, none⟩ = w2.cell? ⟨b, o, none⟩) ∧ Kp w2 w') (first | exact held_start _ | exact held_next (by assumption) (by assumption) | exact held_alloc (by assumption) _ | exact held_drew (by assumption) | exact held_store (by assumption) (by simp) _) (first
    | (go_at_call 35; go_must (refine (refTotSum_any _ _ _ _ _ (hl2.kp (Kp.drew (Kp.refl _))) HO.out).mono ?_); rintro e w' ⟨rfl, kk⟩; rw [HS.out])
    | (go_at_call 33; go_must (refine (totAwake_any _).mono ?_); rintro e w' ⟨rfl, kk⟩))
    all_goals
      go_wp2
      go_ret
      exact ⟨rfl, (by (repeat (first | with_reducible assumption | with_reducible exact Kp.refl _ | with_reducible refine Kp.drew ?_ | with_reducible refine Kp.drewN ?_ _ | with_reducible refine Kp.alloc ?_ _ | ((with_reducible refine Kp.setCell ?_ ?_ _); rotate_left; (focus (first | omega | (simp; done) | (simp; omega)))) | with_reducible refine Kp.trans ?_ (by assumption))))⟩
end Go.Proofs.Ytfiofmlfceknaaa
