/- A geometry's gauges: the row that the program makes of them. -/
import Derived.Test.YtaekeogaakogbaaGreatDoorJ8

namespace Go.Proofs.YtaekeogaakogbaaGreatDoor

open Go.ChangeShapes Go.WideShapes Go.ChangeAt Go.RowKit Go.Shelf

theorem num_any (word : List UInt8) (f : FuncId) (w : World) : Calls Tryz.prog 33 #[sv word, .func (Fn.func f) #[] #[]] w fun e w' => e = .returned (.agg #[sv word, .func (Fn.func 74) #[] #[.pointer (some ⟨w.heap.size, 0, none⟩)], .func (Fn.func 75) #[] #[.pointer (some ⟨w.heap.size, 0, none⟩)]]) ∧ Blk w' w.heap.size [.func (Fn.func f) #[] #[]] 96 ∧ Kp w w' := by
  have hmf : ∀ (fn : Fn) (first cap : Array Value) (w : World), (Instr.makeFunc fn first cap).run Tryz.prog w = .ok (.func fn first cap) w := fun _ _ _ _ => rfl
  go_enter Tryz.func33, Tryz.ntmps33
  go_wp2_with fail
  exact bodyPost_ret (v := .agg #[sv word, .func (Fn.func 74) #[] #[.pointer (some ⟨w.heap.size, 0, none⟩)], .func (Fn.func 75) #[] #[.pointer (some ⟨w.heap.size, 0, none⟩)]]) (by simp [results, Tryz.results33, go_sem]) rfl ⟨rfl, (by (repeat (first | with_reducible assumption | ((with_reducible refine Blk.newL ?_ ?_); (focus (first | (simp; done) | omega)); rfl) | with_reducible refine Blk.drew ?_ | with_reducible refine Blk.drewN ?_ _ | with_reducible refine Blk.alloc ?_ _ | ((with_reducible refine Blk.other ?_ ?_ _); rotate_left; (focus (first | with_reducible assumption | omega | (simp; done) | (simp; omega))))))), (by (repeat (first | with_reducible assumption | with_reducible exact Kp.refl _ | with_reducible refine Kp.drew ?_ | with_reducible refine Kp.drewN ?_ _ | with_reducible refine Kp.alloc ?_ _ | ((with_reducible refine Kp.setCell ?_ ?_ _); rotate_left; (focus (first | omega | (simp; done) | (simp; omega)))) | with_reducible refine Kp.trans ?_ (by assumption))))⟩
theorem sp_any (word : List UInt8) (f : FuncId) (w : World) : Calls Tryz.prog 35 #[sv word, .func (Fn.func f) #[] #[]] w fun e w' => e = .returned (.agg #[sv word, .func (Fn.func 76) #[] #[.pointer (some ⟨w.heap.size, 0, none⟩)], .func (Fn.func 77) #[] #[.pointer (some ⟨w.heap.size, 0, none⟩)]]) ∧ Blk w' w.heap.size [.func (Fn.func f) #[] #[]] 99 ∧ Kp w w' := by
  have hmf : ∀ (fn : Fn) (first cap : Array Value) (w : World), (Instr.makeFunc fn first cap).run Tryz.prog w = .ok (.func fn first cap) w := fun _ _ _ _ => rfl
  go_enter Tryz.func35, Tryz.ntmps35
  go_wp2_with fail
  exact bodyPost_ret (v := .agg #[sv word, .func (Fn.func 76) #[] #[.pointer (some ⟨w.heap.size, 0, none⟩)], .func (Fn.func 77) #[] #[.pointer (some ⟨w.heap.size, 0, none⟩)]]) (by simp [results, Tryz.results35, go_sem]) rfl ⟨rfl, (by (repeat (first | with_reducible assumption | ((with_reducible refine Blk.newL ?_ ?_); (focus (first | (simp; done) | omega)); rfl) | with_reducible refine Blk.drew ?_ | with_reducible refine Blk.drewN ?_ _ | with_reducible refine Blk.alloc ?_ _ | ((with_reducible refine Blk.other ?_ ?_ _); rotate_left; (focus (first | with_reducible assumption | omega | (simp; done) | (simp; omega))))))), (by (repeat (first | with_reducible assumption | with_reducible exact Kp.refl _ | with_reducible refine Kp.drew ?_ | with_reducible refine Kp.drewN ?_ _ | with_reducible refine Kp.alloc ?_ _ | ((with_reducible refine Kp.setCell ?_ ?_ _); rotate_left; (focus (first | omega | (simp; done) | (simp; omega)))) | with_reducible refine Kp.trans ?_ (by assumption))))⟩
/-- A geometry's word. -/
def gwAt (i : Nat) : List UInt8 := gw.getD i []
def gget : List Nat := [74, 76, 76, 76, 76, 76, 76, 76, 76, 76, 76, 74, 74, 74, 74, 74, 74, 74]
def gset : List Nat := [75, 77, 77, 77, 77, 77, 77, 77, 77, 77, 77, 75, 75, 75, 75, 75, 75, 75]
def gat : List Nat := [34, 36, 37, 38, 39, 40, 41, 42, 43, 44, 45, 46, 47, 48, 49, 50, 51, 52]
/-- One gauge of the row in block b. -/
def GAt (w : World) (b i : Nat) : Prop := ∃ c, w.cell? ⟨b, i * 3, none⟩ = some (sv (gwAt i)) ∧ w.cell? ⟨b, i * 3 + 1, none⟩ = some (.func (Fn.func (gget.getD i 0)) #[] #[.pointer (some ⟨c, 0, none⟩)]) ∧ w.cell? ⟨b, i * 3 + 2, none⟩ = some (.func (Fn.func (gset.getD i 0)) #[] #[.pointer (some ⟨c, 0, none⟩)]) ∧
  w.cell? ⟨c, 0, none⟩ = some (.func (Fn.func (gat.getD i 0)) #[] #[]) ∧ c < w.heap.size
def GaugesAt (w : World) (b : Nat) : Prop := b < w.heap.size ∧ ∀ i, i < 18 → GAt w b i
theorem GAt.kp {w w' : World} {b i : Nat} (h : GAt w b i) (hb : b < w.heap.size) (k : Kp w w') : GAt w' b i := by
  obtain ⟨c, h1, h2, h3, h4, h5⟩ := h
  exact ⟨c, (k.cell (p := ⟨b, i * 3, none⟩) hb).trans h1, (k.cell (p := ⟨b, i * 3 + 1, none⟩) hb).trans h2, (k.cell (p := ⟨b, i * 3 + 2, none⟩) hb).trans h3, (k.cell (p := ⟨c, 0, none⟩) h5).trans h4, Nat.lt_of_lt_of_le h5 k.size⟩
theorem GaugesAt.kp {w w' : World} {b : Nat} (h : GaugesAt w b) (k : Kp w w') : GaugesAt w' b := ⟨Nat.lt_of_lt_of_le h.1 k.size, fun i hi => (h.2 i hi).kp h.1 k⟩
set_option maxRecDepth 100000 in
set_option maxHeartbeats 8000000 in
theorem gauges_any (w : World) : Calls Tryz.prog 17 #[] w fun e w' => ∃ b, e = .returned (.slice (some ⟨b, 0, none⟩) 18 18) ∧ GaugesAt w' b ∧ w.heap.size ≤ b ∧ Kp w w' := by
  go_enter Tryz.func17, Tryz.ntmps17
  go_wp2_with fail
  refine (num_any (gwAt 0) 34 _).mono ?_
  rintro e w1 ⟨rfl, b1, k1⟩
  go_wp2_with fail
  refine (sp_any (gwAt 1) 36 _).mono ?_
  rintro e w2 ⟨rfl, b2, k2⟩
  go_wp2_with fail
  refine (sp_any (gwAt 2) 37 _).mono ?_
  rintro e w3 ⟨rfl, b3, k3⟩
  go_wp2_with fail
  refine (sp_any (gwAt 3) 38 _).mono ?_
  rintro e w4 ⟨rfl, b4, k4⟩
  go_wp2_with fail
  refine (sp_any (gwAt 4) 39 _).mono ?_
  rintro e w5 ⟨rfl, b5, k5⟩
  go_wp2_with fail
  refine (sp_any (gwAt 5) 40 _).mono ?_
  rintro e w6 ⟨rfl, b6, k6⟩
  go_wp2_with fail
  refine (sp_any (gwAt 6) 41 _).mono ?_
  rintro e w7 ⟨rfl, b7, k7⟩
  go_wp2_with fail
  refine (sp_any (gwAt 7) 42 _).mono ?_
  rintro e w8 ⟨rfl, b8, k8⟩
  go_wp2_with fail
  refine (sp_any (gwAt 8) 43 _).mono ?_
  rintro e w9 ⟨rfl, b9, k9⟩
  go_wp2_with fail
  refine (sp_any (gwAt 9) 44 _).mono ?_
  rintro e w10 ⟨rfl, b10, k10⟩
  go_wp2_with fail
  refine (sp_any (gwAt 10) 45 _).mono ?_
  rintro e w11 ⟨rfl, b11, k11⟩
  go_wp2_with fail
  refine (num_any (gwAt 11) 46 _).mono ?_
  rintro e w12 ⟨rfl, b12, k12⟩
  go_wp2_with fail
  refine (num_any (gwAt 12) 47 _).mono ?_
  rintro e w13 ⟨rfl, b13, k13⟩
  go_wp2_with fail
  refine (num_any (gwAt 13) 48 _).mono ?_
  rintro e w14 ⟨rfl, b14, k14⟩
  go_wp2_with fail
  refine (num_any (gwAt 14) 49 _).mono ?_
  rintro e w15 ⟨rfl, b15, k15⟩
  go_wp2_with fail
  refine (num_any (gwAt 15) 50 _).mono ?_
  rintro e w16 ⟨rfl, b16, k16⟩
  go_wp2_with fail
  refine (num_any (gwAt 16) 51 _).mono ?_
  rintro e w17 ⟨rfl, b17, k17⟩
  go_wp2_with fail
  refine (num_any (gwAt 17) 52 _).mono ?_
  rintro e w18 ⟨rfl, b18, k18⟩
  go_wp2_with fail
  (try go_ret)
  suffices H : ∀ wz, Blk wz w18.heap.size ([sv (gwAt 0), .func (Fn.func 74) #[] #[.pointer (some ⟨w.heap.size, 0, none⟩)], .func (Fn.func 75) #[] #[.pointer (some ⟨w.heap.size, 0, none⟩)]] ++ ([sv (gwAt 1), .func (Fn.func 76) #[] #[.pointer (some ⟨w1.heap.size, 0, none⟩)], .func (Fn.func 77) #[] #[.pointer (some ⟨w1.heap.size, 0, none⟩)]] ++ ([sv (gwAt 2), .func (Fn.func 76) #[] #[.pointer (some ⟨w2.heap.size, 0, none⟩)], .func (Fn.func 77) #[] #[.pointer (some ⟨w2.heap.size, 0, none⟩)]] ++ ([sv (gwAt 3), .func (Fn.func 76) #[] #[.pointer (some ⟨w3.heap.size, 0, none⟩)], .func (Fn.func 77) #[] #[.pointer (some ⟨w3.heap.size, 0, none⟩)]] ++ ([sv (gwAt 4), .func (Fn.func 76) #[] #[.pointer (some ⟨w4.heap.size, 0, none⟩)], .func (Fn.func 77) #[] #[.pointer (some ⟨w4.heap.size, 0, none⟩)]] ++ ([sv (gwAt 5), .func (Fn.func 76) #[] #[.pointer (some ⟨w5.heap.size, 0, none⟩)], .func (Fn.func 77) #[] #[.pointer (some ⟨w5.heap.size, 0, none⟩)]] ++ ([sv (gwAt 6), .func (Fn.func 76) #[] #[.pointer (some ⟨w6.heap.size, 0, none⟩)], .func (Fn.func 77) #[] #[.pointer (some ⟨w6.heap.size, 0, none⟩)]] ++ ([sv (gwAt 7), .func (Fn.func 76) #[] #[.pointer (some ⟨w7.heap.size, 0, none⟩)], .func (Fn.func 77) #[] #[.pointer (some ⟨w7.heap.size, 0, none⟩)]] ++ ([sv (gwAt 8), .func (Fn.func 76) #[] #[.pointer (some ⟨w8.heap.size, 0, none⟩)], .func (Fn.func 77) #[] #[.pointer (some ⟨w8.heap.size, 0, none⟩)]] ++ ([sv (gwAt 9), .func (Fn.func 76) #[] #[.pointer (some ⟨w9.heap.size, 0, none⟩)], .func (Fn.func 77) #[] #[.pointer (some ⟨w9.heap.size, 0, none⟩)]] ++ ([sv (gwAt 10), .func (Fn.func 76) #[] #[.pointer (some ⟨w10.heap.size, 0, none⟩)], .func (Fn.func 77) #[] #[.pointer (some ⟨w10.heap.size, 0, none⟩)]] ++ ([sv (gwAt 11), .func (Fn.func 74) #[] #[.pointer (some ⟨w11.heap.size, 0, none⟩)], .func (Fn.func 75) #[] #[.pointer (some ⟨w11.heap.size, 0, none⟩)]] ++ ([sv (gwAt 12), .func (Fn.func 74) #[] #[.pointer (some ⟨w12.heap.size, 0, none⟩)], .func (Fn.func 75) #[] #[.pointer (some ⟨w12.heap.size, 0, none⟩)]] ++ ([sv (gwAt 13), .func (Fn.func 74) #[] #[.pointer (some ⟨w13.heap.size, 0, none⟩)], .func (Fn.func 75) #[] #[.pointer (some ⟨w13.heap.size, 0, none⟩)]] ++ ([sv (gwAt 14), .func (Fn.func 74) #[] #[.pointer (some ⟨w14.heap.size, 0, none⟩)], .func (Fn.func 75) #[] #[.pointer (some ⟨w14.heap.size, 0, none⟩)]] ++ ([sv (gwAt 15), .func (Fn.func 74) #[] #[.pointer (some ⟨w15.heap.size, 0, none⟩)], .func (Fn.func 75) #[] #[.pointer (some ⟨w15.heap.size, 0, none⟩)]] ++ ([sv (gwAt 16), .func (Fn.func 74) #[] #[.pointer (some ⟨w16.heap.size, 0, none⟩)], .func (Fn.func 75) #[] #[.pointer (some ⟨w16.heap.size, 0, none⟩)]] ++ ([sv (gwAt 17), .func (Fn.func 74) #[] #[.pointer (some ⟨w17.heap.size, 0, none⟩)], .func (Fn.func 75) #[] #[.pointer (some ⟨w17.heap.size, 0, none⟩)]])))))))))))))))))) 67 → Kp w18 wz → ∃ b, w18.heap.size = b ∧ GaugesAt wz b ∧ w.heap.size ≤ b ∧ Kp w wz by
    obtain ⟨b, rfl, h1, h2, h3⟩ := H _ (Blk.new w18 _ _) ((Kp.refl _).alloc _)
    exact ⟨_, rfl, h1, h2, h3⟩
  intro wz bz kwz
  have q18 := kwz
  have q17 := k18.trans q18
  have q16 := k17.trans q17
  have q15 := k16.trans q16
  have q14 := k15.trans q15
  have q13 := k14.trans q14
  have q12 := k13.trans q13
  have q11 := k12.trans q12
  have q10 := k11.trans q11
  have q9 := k10.trans q10
  have q8 := k9.trans q9
  have q7 := k8.trans q8
  have q6 := k7.trans q7
  have q5 := k6.trans q6
  have q4 := k5.trans q5
  have q3 := k4.trans q4
  have q2 := k3.trans q3
  have q1 := k2.trans q2
  have q0 := k1.trans q1
  refine ⟨w18.heap.size, rfl, ⟨bz.lt, fun i hi => ?_⟩, (((((((((((((((((k1.trans k2).trans k3).trans k4).trans k5).trans k6).trans k7).trans k8).trans k9).trans k10).trans k11).trans k12).trans k13).trans k14).trans k15).trans k16).trans k17).trans k18).size, q0⟩
  obtain rfl | rfl | rfl | rfl | rfl | rfl | rfl | rfl | rfl | rfl | rfl | rfl | rfl | rfl | rfl | rfl | rfl | rfl : i = 0 ∨ i = 1 ∨ i = 2 ∨ i = 3 ∨ i = 4 ∨ i = 5 ∨ i = 6 ∨ i = 7 ∨ i = 8 ∨ i = 9 ∨ i = 10 ∨ i = 11 ∨ i = 12 ∨ i = 13 ∨ i = 14 ∨ i = 15 ∨ i = 16 ∨ i = 17 := by omega
  · exact ⟨w.heap.size, bz.cell 0 rfl, bz.cell 1 rfl, bz.cell 2 rfl, (b1.kp q1).cell 0 rfl, (b1.kp q1).lt⟩
  · exact ⟨w1.heap.size, bz.cell 3 rfl, bz.cell 4 rfl, bz.cell 5 rfl, (b2.kp q2).cell 0 rfl, (b2.kp q2).lt⟩
  · exact ⟨w2.heap.size, bz.cell 6 rfl, bz.cell 7 rfl, bz.cell 8 rfl, (b3.kp q3).cell 0 rfl, (b3.kp q3).lt⟩
  · exact ⟨w3.heap.size, bz.cell 9 rfl, bz.cell 10 rfl, bz.cell 11 rfl, (b4.kp q4).cell 0 rfl, (b4.kp q4).lt⟩
  · exact ⟨w4.heap.size, bz.cell 12 rfl, bz.cell 13 rfl, bz.cell 14 rfl, (b5.kp q5).cell 0 rfl, (b5.kp q5).lt⟩
  · exact ⟨w5.heap.size, bz.cell 15 rfl, bz.cell 16 rfl, bz.cell 17 rfl, (b6.kp q6).cell 0 rfl, (b6.kp q6).lt⟩
  · exact ⟨w6.heap.size, bz.cell 18 rfl, bz.cell 19 rfl, bz.cell 20 rfl, (b7.kp q7).cell 0 rfl, (b7.kp q7).lt⟩
  · exact ⟨w7.heap.size, bz.cell 21 rfl, bz.cell 22 rfl, bz.cell 23 rfl, (b8.kp q8).cell 0 rfl, (b8.kp q8).lt⟩
  · exact ⟨w8.heap.size, bz.cell 24 rfl, bz.cell 25 rfl, bz.cell 26 rfl, (b9.kp q9).cell 0 rfl, (b9.kp q9).lt⟩
  · exact ⟨w9.heap.size, bz.cell 27 rfl, bz.cell 28 rfl, bz.cell 29 rfl, (b10.kp q10).cell 0 rfl, (b10.kp q10).lt⟩
  · exact ⟨w10.heap.size, bz.cell 30 rfl, bz.cell 31 rfl, bz.cell 32 rfl, (b11.kp q11).cell 0 rfl, (b11.kp q11).lt⟩
  · exact ⟨w11.heap.size, bz.cell 33 rfl, bz.cell 34 rfl, bz.cell 35 rfl, (b12.kp q12).cell 0 rfl, (b12.kp q12).lt⟩
  · exact ⟨w12.heap.size, bz.cell 36 rfl, bz.cell 37 rfl, bz.cell 38 rfl, (b13.kp q13).cell 0 rfl, (b13.kp q13).lt⟩
  · exact ⟨w13.heap.size, bz.cell 39 rfl, bz.cell 40 rfl, bz.cell 41 rfl, (b14.kp q14).cell 0 rfl, (b14.kp q14).lt⟩
  · exact ⟨w14.heap.size, bz.cell 42 rfl, bz.cell 43 rfl, bz.cell 44 rfl, (b15.kp q15).cell 0 rfl, (b15.kp q15).lt⟩
  · exact ⟨w15.heap.size, bz.cell 45 rfl, bz.cell 46 rfl, bz.cell 47 rfl, (b16.kp q16).cell 0 rfl, (b16.kp q16).lt⟩
  · exact ⟨w16.heap.size, bz.cell 48 rfl, bz.cell 49 rfl, bz.cell 50 rfl, (b17.kp q17).cell 0 rfl, (b17.kp q17).lt⟩
  · exact ⟨w17.heap.size, bz.cell 51 rfl, bz.cell 52 rfl, bz.cell 53 rfl, (b18.kp q18).cell 0 rfl, (b18.kp q18).lt⟩
end Go.Proofs.YtaekeogaakogbaaGreatDoor
