/- The law GalleyPuts: the thing of any text; any thing's text is that of a thing. -/
import Derived.Test.YtkglkbkikgncoaaDoorG19

namespace Go.Proofs.YtkglkbkikgncoaaDoor

open Go.ChangeShapes Go.WideShapes Go.ChangeAt Go.RowKit Go.Shelf

/-- The program's thing of a text, and the document's, at once. -/
theorem both_put (s : List UInt8) (hs : s.length ≤ 10000) : ∃ (P : Put) (b : Bool), refGot s = gotV P b ∧ ∀ (w : World), Env w → Calls Tryd.prog 10 #[sv s] w fun e w' => e = .returned (.tuple #[.agg #[.int .i64 P.k, .int .i64 P.n, .int .i64 P.l, .int .i64 P.y, .int .i64 P.h], .bool b]) ∧ Kp w w' := by
  have hr := refGot_put s
  cases h : putP s with
  | some p =>
    rw [h] at hr
    refine ⟨p, true, hr, fun w he => (galleyPut_any s hs w he).mono ?_⟩
    rintro e w' ⟨k, ⟨p', hp, rfl⟩ | ⟨hp, _⟩⟩
    · rw [h] at hp; cases hp
      exact ⟨rfl, k⟩
    · rw [h] at hp; cases hp
  | none =>
    rw [h] at hr
    refine ⟨⟨0, 0, 0, 0, 0⟩, false, hr, fun w he => (galleyPut_any s hs w he).mono ?_⟩
    rintro e w' ⟨k, ⟨p', hp, _⟩ | ⟨hp, rfl⟩⟩
    · rw [h] at hp; cases hp
    · exact ⟨rfl, k⟩
theorem back_put (p : Put) (hp : p.ok) (w : World) (he : Env w) : Calls Tryd.prog 10 #[sv (putL p)] w fun e w' => e = .returned (.tuple #[.agg #[.int .i64 p.norm.k, .int .i64 p.norm.n, .int .i64 p.norm.l, .int .i64 p.norm.y, .int .i64 p.norm.h], .bool true]) ∧ Kp w w' := by
  refine (galleyPut_any (putL p) (by have := putL_short p hp; omega) w he).mono ?_
  rintro e w' ⟨k, ⟨p', h, rfl⟩ | ⟨h, _⟩⟩
  · rw [putP_putL hp] at h; cases h
    exact ⟨rfl, k⟩
  · rw [putP_putL hp] at h; cases h
set_option maxRecDepth 100000 in
set_option maxHeartbeats 8000000 in
theorem galleyPuts_main (s : List UInt8) (p0 p1 p2 p3 p4 : Int) (w : World) (he : Env w) (hs : s.length ≤ 300) (hp : Put.ok ⟨p0, p1, p2, p3, p4⟩) :
    Calls Tryd.prog 4 #[sv s, .agg #[.int .i64 p0, .int .i64 p1, .int .i64 p2, .int .i64 p3, .int .i64 p4]] w fun e w' => e = .returned (.bool true) ∧ Kp w w' := by
  have HE := Lib.hid he
  have eP := @eqPt
  obtain ⟨⟨a0, a1, a2, a3, a4⟩, b, hg, hc⟩ := both_put s (by omega)
  have HC := Lib.hid hc
  have CR : Hid (∀ w', Calls Tryd.prog 11 #[sv s] w' fun e w'' => e = .returned (.agg #[.int .i64 a0, .int .i64 a1, .int .i64 a2, .int .i64 a3, .int .i64 a4, .bool b]) ∧ Kp w' w'') := Lib.hid fun w' => by
    have hh := refPut51_any s (by omega) w'
    rw [hg] at hh; exact hh
  have CS : Hid (∀ w', Env w' → Calls Tryd.prog 12 #[.agg #[.int .i64 p0, .int .i64 p1, .int .i64 p2, .int .i64 p3, .int .i64 p4]] w' fun e w'' => e = .returned (sv (putL ⟨p0, p1, p2, p3, p4⟩)) ∧ Kp w' w'') := Lib.hid fun w' he => put_any ⟨p0, p1, p2, p3, p4⟩ hp w' he
  have CB : Hid (∀ w', Env w' → Calls Tryd.prog 10 #[sv (putL ⟨p0, p1, p2, p3, p4⟩)] w' fun e w'' => e = .returned (.tuple #[.agg #[.int .i64 (Put.norm ⟨p0, p1, p2, p3, p4⟩).k, .int .i64 (Put.norm ⟨p0, p1, p2, p3, p4⟩).n, .int .i64 (Put.norm ⟨p0, p1, p2, p3, p4⟩).l, .int .i64 (Put.norm ⟨p0, p1, p2, p3, p4⟩).y, .int .i64 (Put.norm ⟨p0, p1, p2, p3, p4⟩).h], .bool true]) ∧ Kp w' w'') := Lib.hid fun w' he => back_put ⟨p0, p1, p2, p3, p4⟩ hp w' he
  have CN : Hid (∀ w', Env w' → Calls Tryd.prog 12 #[.agg #[.int .i64 (Put.norm ⟨p0, p1, p2, p3, p4⟩).k, .int .i64 (Put.norm ⟨p0, p1, p2, p3, p4⟩).n, .int .i64 (Put.norm ⟨p0, p1, p2, p3, p4⟩).l, .int .i64 (Put.norm ⟨p0, p1, p2, p3, p4⟩).y, .int .i64 (Put.norm ⟨p0, p1, p2, p3, p4⟩).h]] w' fun e w'' => e = .returned (sv (putL ⟨p0, p1, p2, p3, p4⟩)) ∧ Kp w' w'') := Lib.hid fun w' he => by
    have hh := put_any (Put.norm ⟨p0, p1, p2, p3, p4⟩) (norm_ok hp) w' he
    rw [norm_putL] at hh; exact hh
  obtain ⟨⟨r0, r1, r2, r3, r4⟩, hr⟩ : ∃ r, Put.norm ⟨p0, p1, p2, p3, p4⟩ = r := ⟨_, rfl⟩
  rw [hr] at CB CN
  obtain ⟨T, hT⟩ : ∃ T, putL ⟨p0, p1, p2, p3, p4⟩ = T := ⟨_, rfl⟩
  rw [hT] at CS CB CN
  have CAW : Hid (∀ w', Kp w w' → Calls Tryd.prog 6 #[] w' fun e w'' => e = .returned (.bool true) ∧ Kp w' w'') := Lib.hid fun w' k => awake51_any w' (he.kp k)
  have j1 : decide ((300 : Int) < (s.length : Int)) = false := decide_eq_false (by omega)
  clear he hg hc hp hr hT
  go_enter Tryd.func4, Tryd.ntmps4
  go_wp2_with fail
  refine (HC.out _ (HE.out.kp (by (repeat (first | with_reducible assumption | with_reducible exact Kp.refl _ | with_reducible refine Kp.drew ?_ | with_reducible refine Kp.drewN ?_ _ | with_reducible refine Kp.alloc ?_ _ | ((with_reducible refine Kp.setCell ?_ ?_ _); rotate_left; (focus (first | omega | (simp; done) | (simp; omega)))) | with_reducible refine Kp.trans ?_ (by assumption)))))).mono ?_
  rintro e w1 ⟨rfl, k1⟩
  have bp1 : Blk w1 w.heap.size [.int .i64 p0, .int .i64 p1, .int .i64 p2, .int .i64 p3, .int .i64 p4] 33 := Blk.kp (by (repeat (first | with_reducible assumption | ((with_reducible refine Blk.newL ?_ ?_); (focus (first | (simp; done) | omega)); rfl) | with_reducible refine Blk.drew ?_ | with_reducible refine Blk.drewN ?_ _ | with_reducible refine Blk.alloc ?_ _ | ((with_reducible refine Blk.other ?_ ?_ _); rotate_left; (focus (first | with_reducible assumption | omega | (simp; done) | (simp; omega))))))) k1
  have kw1 : Kp w w1 := ((by (repeat (first | with_reducible assumption | with_reducible exact Kp.refl _ | with_reducible refine Kp.drew ?_ | with_reducible refine Kp.drewN ?_ _ | with_reducible refine Kp.alloc ?_ _ | ((with_reducible refine Kp.setCell ?_ ?_ _); rotate_left; (focus (first | omega | (simp; done) | (simp; omega)))) | with_reducible refine Kp.trans ?_ (by assumption)))) : Kp w _).trans k1
  clear k1
  go_wp2_with fail
  refine (CR.out _).mono ?_
  rintro e w2 ⟨rfl, k2⟩
  have bp2 := Blk.kp (Blk.alloc bp1 (.cells #[.int .i64 a0, .int .i64 a1, .int .i64 a2, .int .i64 a3, .int .i64 a4] 33)) k2
  have bq2 : Blk w2 w1.heap.size [.int .i64 a0, .int .i64 a1, .int .i64 a2, .int .i64 a3, .int .i64 a4] 33 := Blk.kp (by (repeat (first | with_reducible assumption | ((with_reducible refine Blk.newL ?_ ?_); (focus (first | (simp; done) | omega)); rfl) | with_reducible refine Blk.drew ?_ | with_reducible refine Blk.drewN ?_ _ | with_reducible refine Blk.alloc ?_ _ | ((with_reducible refine Blk.other ?_ ?_ _); rotate_left; (focus (first | with_reducible assumption | omega | (simp; done) | (simp; omega))))))) k2
  have kw2 : Kp w w2 := (kw1.alloc _).trans k2
  have bpx := Blk.alloc bp2 (.cells #[.int .i64 a0, .int .i64 a1, .int .i64 a2, .int .i64 a3, .int .i64 a4, .bool b] 37)
  have p0' := bpx.cell 0 rfl; have p1' := bpx.cell 1 rfl; have p2' := bpx.cell 2 rfl; have p3' := bpx.cell 3 rfl; have p4' := bpx.cell 4 rfl
  clear k2 bp1 bpx
  go_wp2_with fail
  refine (CS.out _ ?env).mono ?_
  case env => exact HE.out.kp (kw2.alloc _)
  rintro e w3 ⟨rfl, k3⟩
  have bp3 := Blk.kp (Blk.alloc bp2 (.cells #[.int .i64 a0, .int .i64 a1, .int .i64 a2, .int .i64 a3, .int .i64 a4, .bool b] 37)) k3
  have bq3 := Blk.kp (Blk.alloc bq2 (.cells #[.int .i64 a0, .int .i64 a1, .int .i64 a2, .int .i64 a3, .int .i64 a4, .bool b] 37)) k3
  have bx3 : Blk w3 w2.heap.size [.int .i64 a0, .int .i64 a1, .int .i64 a2, .int .i64 a3, .int .i64 a4, .bool b] 37 := Blk.kp (by (repeat (first | with_reducible assumption | ((with_reducible refine Blk.newL ?_ ?_); (focus (first | (simp; done) | omega)); rfl) | with_reducible refine Blk.drew ?_ | with_reducible refine Blk.drewN ?_ _ | with_reducible refine Blk.alloc ?_ _ | ((with_reducible refine Blk.other ?_ ?_ _); rotate_left; (focus (first | with_reducible assumption | omega | (simp; done) | (simp; omega))))))) k3
  have kw3 : Kp w w3 := (kw2.alloc _).trans k3
  clear k3 bp2 bq2 p0' p1' p2' p3' p4'
  go_wp2_with fail
  refine (CB.out _ (HE.out.kp kw3)).mono ?_
  rintro e w4 ⟨rfl, k4⟩
  have bp4 := Blk.alloc (Blk.kp bp3 k4) (.cells #[.int .i64 r0, .int .i64 r1, .int .i64 r2, .int .i64 r3, .int .i64 r4] 33)
  have bq4 := Blk.alloc (Blk.kp bq3 k4) (.cells #[.int .i64 r0, .int .i64 r1, .int .i64 r2, .int .i64 r3, .int .i64 r4] 33)
  have bx4 := Blk.alloc (Blk.kp bx3 k4) (.cells #[.int .i64 r0, .int .i64 r1, .int .i64 r2, .int .i64 r3, .int .i64 r4] 33)
  have br4 : Blk (w4.alloc (.cells #[.int .i64 r0, .int .i64 r1, .int .i64 r2, .int .i64 r3, .int .i64 r4] 33)) w4.heap.size [.int .i64 r0, .int .i64 r1, .int .i64 r2, .int .i64 r3, .int .i64 r4] 33 := (by (repeat (first | with_reducible assumption | ((with_reducible refine Blk.newL ?_ ?_); (focus (first | (simp; done) | omega)); rfl) | with_reducible refine Blk.drew ?_ | with_reducible refine Blk.drewN ?_ _ | with_reducible refine Blk.alloc ?_ _ | ((with_reducible refine Blk.other ?_ ?_ _); rotate_left; (focus (first | with_reducible assumption | omega | (simp; done) | (simp; omega)))))))
  have kw4 : Kp w (w4.alloc (.cells #[.int .i64 r0, .int .i64 r1, .int .i64 r2, .int .i64 r3, .int .i64 r4] 33)) := (kw3.trans k4).alloc _
  clear k4 bp3 bq3 bx3
  go_wp2_with fail
  generalize w4.alloc (.cells #[.int .i64 r0, .int .i64 r1, .int .i64 r2, .int .i64 r3, .int .i64 r4] 33) = w5 at bp4 bq4 bx4 br4 kw4 ⊢
  have p0' := bp4.cell 0 rfl; have p1' := bp4.cell 1 rfl; have p2' := bp4.cell 2 rfl; have p3' := bp4.cell 3 rfl; have p4' := bp4.cell 4 rfl
  have q0' := bq4.cell 0 rfl; have q1' := bq4.cell 1 rfl; have q2' := bq4.cell 2 rfl; have q3' := bq4.cell 3 rfl; have q4' := bq4.cell 4 rfl
  have x0' := bx4.cell 0 rfl; have x1' := bx4.cell 1 rfl; have x2' := bx4.cell 2 rfl; have x3' := bx4.cell 3 rfl; have x4' := bx4.cell 4 rfl; have x5' := bx4.cell 5 rfl
  have r0' := br4.cell 0 rfl; have r1' := br4.cell 1 rfl; have r2' := br4.cell 2 rfl; have r3' := br4.cell 3 rfl; have r4' := br4.cell 4 rfl
  have lp := bp4.lt
  have lq := bq4.lt
  have lx := bx4.lt
  have lr := br4.lt
  clear bp4 bq4 bx4 br4 kw1 kw2 kw3
  (refine wp_region_held_drew (S := (fun w' => (∀ b o, b < w5.heap.size → w'.cell? ⟨b, o, none⟩ = w5.cell? ⟨b, o, none⟩) ∧ Kp w5 w')) (by kernel_rfl) ?_ (fun hHd => ?_); (focus ((try dsimp only); (first | with_reducible assumption | with_reducible exact held_start _ | with_reducible exact held_next (by assumption) (by assumption) | with_reducible exact held_alloc (by assumption) _ | with_reducible exact held_drew (by assumption) | ((with_reducible refine held_kp ?_); (repeat (first | with_reducible assumption | with_reducible exact Kp.refl _ | with_reducible refine Kp.drew ?_ | with_reducible refine Kp.drewN ?_ _ | with_reducible refine Kp.alloc ?_ _ | ((with_reducible refine Kp.setCell ?_ ?_ _); rotate_left; (focus (first | omega | (simp; done) | (simp; omega)))) | with_reducible refine Kp.trans ?_ (by assumption))))))))
  (refine takeH (i := 0) (oi := ?o408) (v := ?v408) ?h408 (by kernel_rfl) ?q408 (Or.inl ⟨?w408, ?y408⟩) (by assumption) ?r408; (case h408 => ((simp only [g1, g3]); rfl)); (case q408 => exact fun _ _ _ h => h); (case w408 => rfl); (case y408 => (intro w' hSw; (try dsimp only at hSw); go_simp; (try with_reducible rfl))); (try simp only [Act.put, s1, s2, s3]))
  (refine takeH (i := 1) (oi := ?o409) (v := ?v409) ?h409 (by kernel_rfl) ?q409 (Or.inl ⟨?w409, ?y409⟩) (by assumption) ?r409; (case h409 => ((simp only [g1, g2, g3]); rfl)); (case q409 => exact fun _ _ _ h => h); (case w409 => rfl); (case y409 => (intro w' hSw; (try dsimp only at hSw); go_simp; (try with_reducible rfl))); (try simp only [Act.put, s1, s2, s3]))
  (refine takeH (i := 2) (oi := ?o410) (v := ?v410) ?h410 (by kernel_rfl) ?q410 (Or.inl ⟨?w410, ?y410⟩) (by assumption) ?r410; (case h410 => ((simp only [g1, g2, g3]); rfl)); (case q410 => exact fun _ _ _ h => h); (case w410 => rfl); (case y410 => (intro w' hSw; (try dsimp only at hSw); go_simp; (try with_reducible rfl))); (try simp only [Act.put, s1, s2, s3]))
  (refine takeH (i := 3) (oi := ?o411) (v := ?v411) ?h411 (by kernel_rfl) ?q411 (Or.inl ⟨?w411, ?y411⟩) (by assumption) ?r411; (case h411 => ((simp only [g1, g2, g3]); rfl)); (case q411 => exact fun _ _ _ h => h); (case w411 => rfl); (case y411 => (intro w' hSw; (try dsimp only at hSw); go_simp; (try with_reducible rfl))); (try simp only [Act.put, s1, s2, s3]))
  (refine takeH (i := 4) (oi := ?o412) (v := ?v412) ?h412 (by kernel_rfl) ?q412 (Or.inl ⟨?w412, ?y412⟩) (by assumption) ?r412; (case h412 => ((simp only [g1, g2, g3]); rfl)); (case q412 => exact fun _ _ _ h => h); (case w412 => rfl); (case y412 => (intro w' hSw; (try dsimp only at hSw); go_simp; (try with_reducible rfl))); (try simp only [Act.put, s1, s2, s3]))
  (refine takeH (i := 5) (oi := ?o413) (v := ?v413) ?h413 (by kernel_rfl) ?q413 (Or.inl ⟨?w413, ?y413⟩) (by assumption) ?r413; (case h413 => ((simp only [g1, g2, g3]); rfl)); (case q413 => exact fun _ _ _ h => h); (case w413 => rfl); (case y413 => (intro w' hSw; (try dsimp only at hSw); go_simp; (try with_reducible rfl))); (try simp only [Act.put, s1, s2, s3]))
  (refine takeH (i := 6) (oi := ?o414) (v := ?v414) ?h414 (by kernel_rfl) ?q414 (Or.inl ⟨?w414, ?y414⟩) (by assumption) ?r414; (case h414 => ((simp only [g1, g2, g3]); rfl)); (case q414 => exact fun _ _ _ h => h); (case w414 => rfl); (case y414 => (intro w' hSw; (try dsimp only at hSw); go_simp; (try with_reducible rfl))); (try simp only [Act.put, s1, s2, s3]))
  (refine takeH (i := 7) (oi := ?o415) (v := ?v415) ?h415 (by kernel_rfl) ?q415 (Or.inl ⟨?w415, ?y415⟩) (by assumption) ?r415; (case h415 => ((simp only [g1, g2, g3]); rfl)); (case q415 => exact fun _ _ _ h => h); (case w415 => rfl); (case y415 => (intro w' hSw; (try dsimp only at hSw); go_simp; (try with_reducible rfl))); (try simp only [Act.put, s1, s2, s3]))
  (refine takeH (i := 8) (oi := ?o416) (v := ?v416) ?h416 (by kernel_rfl) ?q416 (Or.inl ⟨?w416, ?y416⟩) (by assumption) ?r416; (case h416 => ((simp only [g1, g2, g3]); rfl)); (case q416 => exact fun _ _ _ h => h); (case w416 => rfl); (case y416 => (intro w' hSw; (try dsimp only at hSw); go_simp; (try with_reducible rfl))); (try simp only [Act.put, s1, s2, s3]))
  (refine takeH (i := 9) (oi := ?o417) (v := ?v417) ?h417 (by kernel_rfl) ?q417 (Or.inl ⟨?w417, ?y417⟩) (by assumption) ?r417; (case h417 => ((simp only [g1, g2, g3]); rfl)); (case q417 => exact fun _ _ _ h => h); (case w417 => rfl); (case y417 => (intro w' hSw; (try dsimp only at hSw); go_simp; (try with_reducible rfl))); (try simp only [Act.put, s1, s2, s3]))
  (refine takeH (i := 10) (oi := ?o418) (v := ?v418) ?h418 (by kernel_rfl) ?q418 (Or.inl ⟨?w418, ?y418⟩) (by assumption) ?r418; (case h418 => ((simp only [g1, g2, g3]); rfl)); (case q418 => exact fun _ _ _ h => h); (case w418 => rfl); (case y418 => (intro w' hSw; (try dsimp only at hSw); go_simp; (try with_reducible rfl))); (try simp only [Act.put, s1, s2, s3]))
  (refine takeH (i := 11) (oi := ?o419) (v := ?v419) ?h419 (by kernel_rfl) ?q419 (Or.inl ⟨?w419, ?y419⟩) (by assumption) ?r419; (case h419 => ((simp only [g1, g2, g3]); rfl)); (case q419 => exact fun _ _ _ h => h); (case w419 => rfl); (case y419 => (intro w' hSw; (try dsimp only at hSw); go_simp; (try with_reducible rfl))); (try simp only [Act.put, s1, s2, s3]))
  (refine takeH (i := 12) (oi := ?o420) (v := ?v420) ?h420 (by kernel_rfl) ?q420 (Or.inl ⟨?w420, ?y420⟩) (by assumption) ?r420; (case h420 => ((simp only [g1, g2, g3]); rfl)); (case q420 => exact fun _ _ _ h => h); (case w420 => rfl); (case y420 => (intro w' hSw; (try dsimp only at hSw); go_simp; (try with_reducible rfl))); (try simp only [Act.put, s1, s2, s3]))
  (refine takeH (i := 13) (oi := ?o421) (v := ?v421) ?h421 (by kernel_rfl) ?q421 (Or.inl ⟨?w421, ?y421⟩) (by assumption) ?r421; (case h421 => ((simp only [g1, g2, g3]); rfl)); (case q421 => exact fun _ _ _ h => h); (case w421 => rfl); (case y421 => (intro w' hSw; (try dsimp only at hSw); go_simp; (try with_reducible rfl))); (try simp only [Act.put, s1, s2, s3]))
  (refine takeH (i := 14) (oi := ?o422) (v := ?v422) ?h422 (by kernel_rfl) ?q422 (Or.inl ⟨?w422, ?y422⟩) (by assumption) ?r422; (case h422 => ((simp only [g1, g2, g3]); rfl)); (case q422 => exact fun _ _ _ h => h); (case w422 => rfl); (case y422 => (intro w' hSw; (try dsimp only at hSw); go_simp; (try with_reducible rfl))); (try simp only [Act.put, s1, s2, s3]))
  (refine takeH (i := 16) (oi := ?o423) (v := ?v423) ?h423 (by kernel_rfl) ?q423 (Or.inl ⟨?w423, ?y423⟩) (by assumption) ?r423; (case h423 => ((simp only [g1, g2, g3]); rfl)); (case q423 => exact fun _ _ _ h => h); (case w423 => rfl); (case y423 => (intro w' hSw; (try dsimp only at hSw); go_simp; (try with_reducible rfl))); (try simp only [Act.put, s1, s2, s3]))
  (refine wpAnyH_ready (rs := [15]) (by kernel_rfl) (by simp) ?_; refine AllReadyH.cons (o := ?o424) ?h424 (fun K hK => ?s424) AllReadyH.nil; (case h424 => (first | ((simp only [g1, g2, g3]); rfl) | rfl)); (go_simp; go_at_call 12; refine (CN.out _ (HE.out.kp (kw4.trans hHd.2))).mono ?_; rintro e w6 ⟨rfl, kk6⟩; (try dsimp only)); refine hK.out _ _ ?_ (fun hHd => ?_); (focus ((try dsimp only); exact held_kp (hHd.2.trans kk6))); clear hK K; (try simp only [Act.put]))
  (refine wpAnyH_ready (rs := [17]) (by kernel_rfl) (by simp) ?_; refine AllReadyH.cons (o := ?o426) ?h426 (fun K hK => ?s426) AllReadyH.nil; (case h426 => (first | ((simp only [g1, g2, g3]); rfl) | rfl)); (go_simp; go_at_call 12; refine (CS.out _ (HE.out.kp (kw4.trans hHd.2))).mono ?_; rintro e w7 ⟨rfl, kk7⟩; (try dsimp only)); refine hK.out _ _ ?_ (fun hHd => ?_); (focus ((try dsimp only); exact held_kp (hHd.2.trans kk7))); clear hK K; (try simp only [Act.put]))
  (refine takeH (i := 18) (oi := ?o428) (v := ?v428) ?h428 (by kernel_rfl) ?q428 (Or.inl ⟨?w428, ?y428⟩) (by assumption) ?r428; (case h428 => ((simp only [g1, g2, g3]); rfl)); (case q428 => exact fun _ _ _ h => h); (case w428 => rfl); (case y428 => (intro w' hSw; (try dsimp only at hSw); go_simp; (try with_reducible rfl))); (try simp only [Act.put, s1, s2, s3]))
  (refine takeH (i := 19) (oi := ?o429) (v := ?v429) ?h429 (by kernel_rfl) ?q429 (Or.inl ⟨?w429, ?y429⟩) (by assumption) ?r429; (case h429 => ((simp only [g1, g2, g3]); rfl)); (case q429 => exact fun _ _ _ h => h); (case w429 => rfl); (case y429 => (intro w' hSw; (try dsimp only at hSw); go_simp; (try with_reducible rfl))); (try simp only [Act.put, s1, s2, s3]))
  (refine takeH (i := 20) (oi := ?o430) (v := ?v430) ?h430 (by kernel_rfl) ?q430 (Or.inl ⟨?w430, ?y430⟩) (by assumption) ?r430; (case h430 => ((simp only [g1, g2, g3]); rfl)); (case q430 => exact fun _ _ _ h => h); (case w430 => rfl); (case y430 => (intro w' hSw; (try dsimp only at hSw); go_simp; (try with_reducible rfl))); (try simp only [Act.put, s1, s2, s3]))
  (refine wpAnyH_ready (rs := [21]) (by kernel_rfl) (by simp) ?_; refine AllReadyH.cons (o := ?o431) ?h431 (fun K hK => ?s431) AllReadyH.nil; (case h431 => (first | ((simp only [g1, g2, g3]); rfl) | rfl)); (go_simp; go_at_call 6; refine (CAW.out _ (kw4.trans hHd.2)).mono ?_; rintro e w8 ⟨rfl, kk8⟩; (try dsimp only)); refine hK.out _ _ ?_ (fun hHd => ?_); (focus ((try dsimp only); exact held_kp (hHd.2.trans kk8))); clear hK K; (try simp only [Act.put]))
  (refine takeH (i := 22) (oi := ?o433) (v := ?v433) ?h433 (by kernel_rfl) ?q433 (Or.inl ⟨?w433, ?y433⟩) (by assumption) ?r433; (case h433 => ((simp only [g1, g2, g3]); rfl)); (case q433 => exact fun _ _ _ h => h); (case w433 => rfl); (case y433 => (intro w' hSw; (try dsimp only at hSw); go_simp; (try with_reducible rfl))); (try simp only [Act.put, s1, s2, s3]))
  (refine takeH (i := 23) (oi := ?o434) (v := ?v434) ?h434 (by kernel_rfl) ?q434 (Or.inl ⟨?w434, ?y434⟩) (by assumption) ?r434; (case h434 => ((simp only [g1, g2, g3]); rfl)); (case q434 => exact fun _ _ _ h => h); (case w434 => rfl); (case y434 => (intro w' hSw; (try dsimp only at hSw); go_simp; (try with_reducible rfl))); (try simp only [Act.put, s1, s2, s3]))
  refine wpAnyH_done (by kernel_rfl) ?_ _
  go_wp2_with fail
  (try go_ret)
  exact ⟨by first | rfl | simp, kw4.trans hHd.2⟩
set_option maxHeartbeats 1000000 in
theorem galleyPuts_far (s : List UInt8) (p0 p1 p2 p3 p4 : Int) (w : World) (he : Env w) (h : 300 < s.length) (h2 : s.length ≤ 9223372036854775807) :
    Calls Tryd.prog 4 #[sv s, .agg #[.int .i64 p0, .int .i64 p1, .int .i64 p2, .int .i64 p3, .int .i64 p4]] w fun e w' => e = .returned (.bool true) ∧ Kp w w' := by
  have HE := Lib.hid he
  have j1 : decide ((300 : Int) < (s.length : Int)) = true := decide_eq_true (by omega)
  have j2 : decide (300 < s.length) = true := decide_eq_true (by omega)
  clear he
  go_enter Tryd.func4, Tryd.ntmps4
  go_wp2_with fail
  refine (awake51_any _ (HE.out.kp (by (repeat (first | with_reducible assumption | with_reducible exact Kp.refl _ | with_reducible refine Kp.drew ?_ | with_reducible refine Kp.drewN ?_ _ | with_reducible refine Kp.alloc ?_ _ | ((with_reducible refine Kp.setCell ?_ ?_ _); rotate_left; (focus (first | omega | (simp; done) | (simp; omega)))) | with_reducible refine Kp.trans ?_ (by assumption)))))).mono ?_
  rintro e w1 ⟨rfl, k1⟩
  go_wp2_with fail
  (try go_ret)
  exact ⟨rfl, ((by (repeat (first | with_reducible assumption | with_reducible exact Kp.refl _ | with_reducible refine Kp.drew ?_ | with_reducible refine Kp.drewN ?_ _ | with_reducible refine Kp.alloc ?_ _ | ((with_reducible refine Kp.setCell ?_ ?_ _); rotate_left; (focus (first | omega | (simp; done) | (simp; omega)))) | with_reducible refine Kp.trans ?_ (by assumption)))) : Kp w _).trans k1⟩
structure Pt5 where
  k : Int
  n : Int
  l : Int
  y : Int
  h : Int
/-- Its cells. -/
def Pt5.cells (x : Pt5) : List Value := [.int .i64 x.k, .int .i64 x.n, .int .i64 x.l, .int .i64 x.y, .int .i64 x.h]
/-- The value. -/
def Pt5.v (x : Pt5) : Value := .agg #[.int .i64 x.k, .int .i64 x.n, .int .i64 x.l, .int .i64 x.y, .int .i64 x.h]
def Pt5.ok (x : Pt5) : Prop := I64 x.k ∧ I64 x.n ∧ I64 x.l ∧ I64 x.y ∧ I64 x.h
theorem Pt5.of_cells {cs : List Value} (h : Open.allOk [.int .i64, .int .i64, .int .i64, .int .i64, .int .i64] cs) : ∃ x : Pt5, cs = x.cells ∧ x.ok := by
  obtain _ | ⟨c0, cs⟩ := cs; · exact absurd h id
  obtain _ | ⟨c1, cs⟩ := cs; · exact absurd h.2 id
  obtain _ | ⟨c2, cs⟩ := cs; · exact absurd h.2.2 id
  obtain _ | ⟨c3, cs⟩ := cs; · exact absurd h.2.2.2 id
  obtain _ | ⟨c4, cs⟩ := cs; · exact absurd h.2.2.2.2 id
  obtain _ | ⟨c, cs⟩ := cs; rotate_left; · exact absurd h.2.2.2.2.2 id
  obtain ⟨⟨x0, rfl, w0⟩, ⟨x1, rfl, w1⟩, ⟨x2, rfl, w2⟩, ⟨x3, rfl, w3⟩, ⟨x4, rfl, w4⟩, _⟩ := h
  exact ⟨⟨x0, x1, x2, x3, x4⟩, rfl, ⟨Open.i64_of w0, Open.i64_of w1, Open.i64_of w2, Open.i64_of w3, Open.i64_of w4⟩⟩
theorem Open.flat_pt5 : Open.flatK Tryd.prog 4 33 = some [.int .i64, .int .i64, .int .i64, .int .i64, .int .i64] := by kernel_rfl
set_option maxRecDepth 100000 in
theorem Open.open_pt5 {H : Type} {enc : TypeId × Value → H} {w : World} {base : Nat} {spare : Nat → Bool} {held : Bool} {r : Reach} {b0 : Nat} {v : Value} {d : DataW H} {p : List MemPlace}
    (hv : Value.okWide Tryd.prog w r b0 33 v) (h : DataW.Trod enc Tryd.prog w base spare held 33 v d p) : ∃ x : Pt5, v = x.v ∧ x.ok := by
  obtain ⟨cs, hc, hk⟩ := Open.open_flat 4 Open.flat_pt5 (by rw [Tryd.underlying33]; rfl) hv h
  subst hc
  obtain ⟨x, rfl, hx⟩ := Pt5.of_cells hk
  exact ⟨x, rfl, hx⟩
def Open.zero_pt5 : Value := .agg #[.int .i64 0, .int .i64 0, .int .i64 0, .int .i64 0, .int .i64 0]
theorem galleyPuts_row (a : ByteArray) (x : Pt5) (w : World) (ha : a.size ≤ 140737488351232) (hx : x.ok) (he : Env w) :
    Calls Tryd.prog 4 #[.string a, x.v] w fun e w' => e = .returned (.bool true) ∧ Kp w w' := by
  obtain ⟨⟨l⟩⟩ := a
  have hl : l.length ≤ 140737488351232 := ha
  by_cases h : 300 < l.length
  · exact galleyPuts_far l x.k x.n x.l x.y x.h w he h (by omega)
  · exact galleyPuts_main l x.k x.n x.l x.y x.h w he (by omega) hx
end Go.Proofs.YtkglkbkikgncoaaDoor
