/- The document's digits and numbers, and lines. -/
import Derived.Test.YtaekeogaakogbaaGreatDoorLine

import Derived.Test.YtaekeogaakogbaaGreatDoorHeld

import Derived.Laws.IdiomStrings

namespace Go.Proofs.YtaekeogaakogbaaGreatDoor

open Go.RowKit

theorem back1 (w : World) (b cap : Nat) (x : UInt8) (c : Int) (hc : c = x.toNat) (h : w.cell? ⟨b, 0, none⟩ = some (.int .u8 c)) :
    (convert 59 9 (.slice (some ⟨b, 0, none⟩) 1 cap)).run Tryz.prog w = .ok (sv [x]) w := by
  subst hc
  exact run_convert_bytes_back w 59 9 5 ⟨b, 0, none⟩ cap [x] Tryz.underlying59 Tryz.underlying5 Tryz.underlying9 (fun j hj => by
    match j, hj with
    | 0, _ => exact h)
theorem ba_append (l r : List UInt8) : (⟨l.toArray⟩ : ByteArray) ++ ⟨r.toArray⟩ = ⟨(l ++ r).toArray⟩ := by
  apply ByteArray.ext
  simp [ByteArray.data_append]
theorem dig8 (u : Nat) (h : u < 10) : (48 + (u : Int)) = ((UInt8.ofNat (48 + u)).toNat : Int) := by
  rw [UInt8.toNat_ofNat_of_lt' (by simp [UInt8.size]; omega)]; omega
set_option maxRecDepth 100000 in
set_option maxHeartbeats 2000000 in
theorem digits_small (n : Nat) (h : n < 10) (w : World) : Calls Tryz.prog 108 #[.int .u64 n] w fun e w' => e = .returned (sv (Lib.decDigits n)) ∧ Kp w w' := by
  rw [Lib.decDigits, dif_pos h]
  have d := dig8 n h
  obtain ⟨x, hx⟩ : ∃ x, UInt8.ofNat (48 + n) = x := ⟨_, rfl⟩
  rw [hx] at d ⊢
  have D := Lib.hid d
  clear d hx
  have j1 : decide ((n : Int) < 10) = true := decide_eq_true (by omega)
  have b1 : IntKind.u64.wrap (48 + (n : Int)) = 48 + (n : Int) := by unfold IntKind.wrap; simp [IntKind.bits, IntKind.signed]; omega
  have b2 : IntKind.u8.wrap (48 + (n : Int)) = 48 + (n : Int) := by unfold IntKind.wrap; simp [IntKind.bits, IntKind.signed]; omega
  go_enter Tryz.func108, Tryz.ntmps108
  go_wp2
  rw [back1 _ _ _ _ _ D.out (by simp)]
  simp only [Result.andThen]
  rw [Oper.upon_value]
  go_wp2
  (try go_ret)
  exact ⟨rfl, (by (repeat (first | with_reducible assumption | with_reducible exact Kp.refl _ | with_reducible refine Kp.drew ?_ | with_reducible refine Kp.drewN ?_ _ | with_reducible refine Kp.alloc ?_ _ | ((with_reducible refine Kp.setCell ?_ ?_ _); rotate_left; (focus (first | omega | (simp; done) | (simp; omega)))) | with_reducible refine Kp.trans ?_ (by assumption))))⟩
set_option maxRecDepth 100000 in
set_option maxHeartbeats 2000000 in
theorem digits_more (n : Nat) (h : 10 ≤ n) (hn : n < 18446744073709551616) (w : World) (ih : ∀ w', Calls Tryz.prog 108 #[.int .u64 ((n / 10 : Nat) : Int)] w' fun e w'' => e = .returned (sv (Lib.decDigits (n / 10))) ∧ Kp w' w'') :
    Calls Tryz.prog 108 #[.int .u64 n] w fun e w' => e = .returned (sv (Lib.decDigits n)) ∧ Kp w w' := by
  rw [Lib.decDigits, dif_neg (by omega)]
  obtain ⟨q, hq⟩ : ∃ q, n / 10 = q := ⟨_, rfl⟩
  obtain ⟨r, hr⟩ : ∃ r, n % 10 = r := ⟨_, rfl⟩
  have hr1 : r < 10 := by omega
  rw [hq] at ih
  rw [hq, hr]
  have d := dig8 r hr1
  obtain ⟨x, hx⟩ : ∃ x, UInt8.ofNat (48 + r) = x := ⟨_, rfl⟩
  rw [hx] at d ⊢
  have D := Lib.hid d
  have IH := Lib.hid ih
  have e1 : IntKind.u64.wrap ((n : Int) / 10) = (q : Int) := by unfold IntKind.wrap; simp [IntKind.bits, IntKind.signed]; omega
  have e2 : (n : Int).tmod 10 = (r : Int) := by rw [Int.tmod_eq_emod_of_nonneg (by omega)]; omega
  have hs := dec_short (u := q) (by omega)
  obtain ⟨t, ht⟩ : ∃ t, Lib.decDigits q = t := ⟨_, rfl⟩
  rw [ht] at IH hs ⊢
  have hs1 : ¬ 9223372036854775807 < t.length + 1 := by omega
  have BA := @ba_append
  clear d hx hq hr ht hs
  have j1 : decide ((n : Int) < 10) = false := decide_eq_false (by omega)
  have b1 : IntKind.u64.wrap (48 + (r : Int)) = 48 + (r : Int) := by unfold IntKind.wrap; simp [IntKind.bits, IntKind.signed]; omega
  have b2 : IntKind.u8.wrap (48 + (r : Int)) = 48 + (r : Int) := by unfold IntKind.wrap; simp [IntKind.bits, IntKind.signed]; omega
  clear ih
  go_enter Tryz.func108, Tryz.ntmps108
  go_wp2_with fail
  (refine wp_region_held_drew (S := (fun w' => (∀ b o, b < w.heap.size → w'.cell? ⟨b, o, none⟩ = w.cell? ⟨b, o, none⟩) ∧ Kp w w')) (by kernel_rfl) ?_ (fun hHd => ?_); (focus ((try dsimp only); (first | with_reducible assumption | with_reducible exact held_start _ | with_reducible exact held_next (by assumption) (by assumption) | with_reducible exact held_alloc (by assumption) _ | with_reducible exact held_drew (by assumption) | ((with_reducible refine held_kp ?_); (repeat (first | with_reducible assumption | with_reducible exact Kp.refl _ | with_reducible refine Kp.drew ?_ | with_reducible refine Kp.drewN ?_ _ | with_reducible refine Kp.alloc ?_ _ | ((with_reducible refine Kp.setCell ?_ ?_ _); rotate_left; (focus (first | omega | (simp; done) | (simp; omega)))) | with_reducible refine Kp.trans ?_ (by assumption))))))))
  (refine takeH (i := 0) (oi := ?o1) (v := ?v1) ?h1 (by kernel_rfl) ?q1 (Or.inl ⟨?w1, ?y1⟩) (by assumption) ?r1; (case h1 => ((simp only [g1, g3]); rfl)); (case q1 => exact fun _ _ _ h => h); (case w1 => rfl); (case y1 => (intro w' hSw; (try dsimp only at hSw); go_simp; (try with_reducible rfl))); (try simp only [Act.put, s1, s2, s3]))
  (refine takeH (i := 1) (oi := ?o2) (v := ?v2) ?h2 (by kernel_rfl) ?q2 (Or.inl ⟨?w2, ?y2⟩) (by assumption) ?r2; (case h2 => ((simp only [g1, g2, g3]); rfl)); (case q2 => exact fun _ _ _ h => h); (case w2 => rfl); (case y2 => (intro w' hSw; (try dsimp only at hSw); go_simp; (try with_reducible rfl))); (try simp only [Act.put, s1, s2, s3]))
  (refine takeH (i := 3) (oi := ?o3) (v := ?v3) ?h3 (by kernel_rfl) ?q3 (Or.inl ⟨?w3, ?y3⟩) (by assumption) ?r3; (case h3 => ((simp only [g1, g2, g3]); rfl)); (case q3 => exact fun _ _ _ h => h); (case w3 => rfl); (case y3 => (intro w' hSw; (try dsimp only at hSw); go_simp; (try with_reducible rfl))); (try simp only [Act.put, s1, s2, s3]))
  (refine takeH (i := 4) (oi := ?o4) (v := ?v4) ?h4 (by kernel_rfl) ?q4 (Or.inl ⟨?w4, ?y4⟩) (by assumption) ?r4; (case h4 => ((simp only [g1, g2, g3]); rfl)); (case q4 => exact fun _ _ _ h => h); (case w4 => rfl); (case y4 => (intro w' hSw; (try dsimp only at hSw); go_simp; (try with_reducible rfl))); (try simp only [Act.put, s1, s2, s3]))
  (refine takeH (i := 5) (oi := ?o5) (v := ?v5) ?h5 (by kernel_rfl) ?q5 (Or.inl ⟨?w5, ?y5⟩) (by assumption) ?r5; (case h5 => ((simp only [g1, g2, g3]); rfl)); (case q5 => exact fun _ _ _ h => h); (case w5 => rfl); (case y5 => (intro w' hSw; (try dsimp only at hSw); go_simp; (try with_reducible rfl))); (try simp only [Act.put, s1, s2, s3]))
  (refine takeH (i := 6) (oi := ?o6) (v := ?v6) ?h6 (by kernel_rfl) ?q6 (Or.inl ⟨?w6, ?y6⟩) (by assumption) ?r6; (case h6 => ((simp only [g1, g2, g3]); rfl)); (case q6 => exact fun _ _ _ h => h); (case w6 => rfl); (case y6 => (intro w' hSw; (try dsimp only at hSw); go_simp; (try with_reducible rfl))); (try simp only [Act.put, s1, s2, s3]))
  (refine wpAnyH_ready (rs := [2, 7]) (by kernel_rfl) (by simp) ?_; refine (AllReadyH.cons (o := ?o7) ?h7 (fun K hK => ?s7) (AllReadyH.cons (o := ?o8) ?h8 (fun K hK => ?s8) AllReadyH.nil)); (case h7 => (first | ((simp only [g1, g2, g3]); rfl) | rfl)); (case h8 => (first | ((simp only [g1, g2, g3]); rfl) | rfl)))
  (go_simp; (first | (go_at_call 108; refine (IH.out _).mono ?_; rintro e w3 ⟨rfl, kk⟩; have ksz := (hHd.2.trans kk).size; (try (have zb := Blk.kp (by first | with_reducible assumption | exact Blk.new _ _ _ | exact (Blk.new _ _ _).drew) kk; have zc0 := zb.cell 0 rfl; have zf0 := zb.free 0)))); (try dsimp only); refine hK.out _ _ ?_ (fun hHd => ?_); (focus ((try dsimp only); (first | with_reducible assumption | with_reducible exact held_next (by assumption) (by assumption) | with_reducible exact held_alloc (by assumption) _))); clear hK K; (try simp only [Act.put, s1, s2, s3]))
  (refine wpAnyH_ready (rs := [7]) (by kernel_rfl) (by simp) ?_; refine AllReadyH.cons (o := ?o9) ?h9 (fun K hK => ?s9) AllReadyH.nil; (case h9 => (first | ((simp only [g1, g2, g3]); rfl) | rfl)); go_simp; (try dsimp only); refine hK.out _ _ ?_ (fun hHd => ?_); (focus ((try dsimp only); (first | with_reducible assumption | with_reducible exact held_start _ | with_reducible exact held_next (by assumption) (by assumption) | with_reducible exact held_alloc (by assumption) _ | with_reducible exact held_drew (by assumption) | ((with_reducible refine held_kp ?_); (repeat (first | with_reducible assumption | with_reducible exact Kp.refl _ | with_reducible refine Kp.drew ?_ | with_reducible refine Kp.drewN ?_ _ | with_reducible refine Kp.alloc ?_ _ | ((with_reducible refine Kp.setCell ?_ ?_ _); rotate_left; (focus (first | omega | (simp; done) | (simp; omega)))) | with_reducible refine Kp.trans ?_ (by assumption))))))); clear hK K; (try simp only [Act.put, s1, s2, s3]))
  (refine wpAnyH_ready (rs := [8]) (by kernel_rfl) (by simp) ?_; refine AllReadyH.cons (o := ?o10) ?h10 (fun K hK => ?s10) AllReadyH.nil; (case h10 => (first | ((simp only [g1, g2, g3]); rfl) | rfl)); (go_simp; rw [back1 _ _ _ _ _ D.out (by first | assumption | (simp; done))]; simp only [Result.andThen]; rw [Oper.upon_value]); refine hK.out _ _ ?_ (fun hHd => ?_); (focus ((try dsimp only); (refine held_kp ?_; (repeat (first | with_reducible assumption | with_reducible exact Kp.refl _ | with_reducible refine Kp.drew ?_ | with_reducible refine Kp.drewN ?_ _ | with_reducible refine Kp.alloc ?_ _ | ((with_reducible refine Kp.setCell ?_ ?_ _); rotate_left; (focus (first | omega | (simp; done) | (simp; omega)))) | ((with_reducible refine Kp.setCells ?_ _ _ _ ?_); (focus (first | omega | (simp; done) | (simp; omega)))) | with_reducible refine Kp.trans ?_ (by assumption)))))); clear hK K; (try simp only [Act.put]))
  (refine takeH (i := 9) (oi := ?o12) (v := ?v12) ?h12 (by kernel_rfl) ?q12 (Or.inl ⟨?w12, ?y12⟩) (by assumption) ?r12; (case h12 => ((simp only [g1, g2, g3]); rfl)); (case q12 => exact fun _ _ _ h => h); (case w12 => rfl); (case y12 => (intro w' hSw; (try dsimp only at hSw); go_simp; (try with_reducible rfl))); (try simp only [Act.put, s1, s2, s3]))
  (refine takeH (i := 10) (oi := ?o13) (v := ?v13) ?h13 (by kernel_rfl) ?q13 (Or.inl ⟨?w13, ?y13⟩) (by assumption) ?r13; (case h13 => ((simp only [g1, g2, g3]); rfl)); (case q13 => exact fun _ _ _ h => h); (case w13 => rfl); (case y13 => (intro w' hSw; (try dsimp only at hSw); go_simp; (try with_reducible rfl))); (try simp only [Act.put, s1, s2, s3]))
  refine wpAnyH_done (by kernel_rfl) ?_ _
  rotate_left
  (go_simp; (try dsimp only); refine hK.out _ _ ?_ (fun hHd => ?_); (focus ((try dsimp only); (first | with_reducible assumption | with_reducible exact held_start _ | with_reducible exact held_next (by assumption) (by assumption) | with_reducible exact held_alloc (by assumption) _ | with_reducible exact held_drew (by assumption) | ((with_reducible refine held_kp ?_); (repeat (first | with_reducible assumption | with_reducible exact Kp.refl _ | with_reducible refine Kp.drew ?_ | with_reducible refine Kp.drewN ?_ _ | with_reducible refine Kp.alloc ?_ _ | ((with_reducible refine Kp.setCell ?_ ?_ _); rotate_left; (focus (first | omega | (simp; done) | (simp; omega)))) | with_reducible refine Kp.trans ?_ (by assumption))))))); clear hK K; (try simp only [Act.put, s1, s2, s3]))
  (refine wpAnyH_ready (rs := [2, 8]) (by kernel_rfl) (by simp) ?_; refine (AllReadyH.cons (o := ?o14) ?h14 (fun K hK => ?s14) (AllReadyH.cons (o := ?o15) ?h15 (fun K hK => ?s15) AllReadyH.nil)); (case h14 => (first | ((simp only [g1, g2, g3]); rfl) | rfl)); (case h15 => (first | ((simp only [g1, g2, g3]); rfl) | rfl)))
  (go_simp; (first | (go_at_call 108; refine (IH.out _).mono ?_; rintro e w3 ⟨rfl, kk⟩; have ksz := (hHd.2.trans kk).size; (try (have zb := Blk.kp (by first | with_reducible assumption | exact Blk.new _ _ _ | exact (Blk.new _ _ _).drew) kk; have zc0 := zb.cell 0 rfl; have zf0 := zb.free 0)))); (try dsimp only); refine hK.out _ _ ?_ (fun hHd => ?_); (focus ((try dsimp only); (first | with_reducible assumption | with_reducible exact held_next (by assumption) (by assumption) | with_reducible exact held_alloc (by assumption) _))); clear hK K; (try simp only [Act.put, s1, s2, s3]))
  (refine wpAnyH_ready (rs := [8]) (by kernel_rfl) (by simp) ?_; refine AllReadyH.cons (o := ?o16) ?h16 (fun K hK => ?s16) AllReadyH.nil; (case h16 => (first | ((simp only [g1, g2, g3]); rfl) | rfl)); (go_simp; rw [back1 _ _ _ _ _ D.out (by first | assumption | (simp; done))]; simp only [Result.andThen]; rw [Oper.upon_value]); refine hK.out _ _ ?_ (fun hHd => ?_); (focus ((try dsimp only); (refine held_kp ?_; (repeat (first | with_reducible assumption | with_reducible exact Kp.refl _ | with_reducible refine Kp.drew ?_ | with_reducible refine Kp.drewN ?_ _ | with_reducible refine Kp.alloc ?_ _ | ((with_reducible refine Kp.setCell ?_ ?_ _); rotate_left; (focus (first | omega | (simp; done) | (simp; omega)))) | ((with_reducible refine Kp.setCells ?_ _ _ _ ?_); (focus (first | omega | (simp; done) | (simp; omega)))) | with_reducible refine Kp.trans ?_ (by assumption)))))); clear hK K; (try simp only [Act.put]))
  (refine takeH (i := 9) (oi := ?o18) (v := ?v18) ?h18 (by kernel_rfl) ?q18 (Or.inl ⟨?w18, ?y18⟩) (by assumption) ?r18; (case h18 => ((simp only [g1, g2, g3]); rfl)); (case q18 => exact fun _ _ _ h => h); (case w18 => rfl); (case y18 => (intro w' hSw; (try dsimp only at hSw); go_simp; (try with_reducible rfl))); (try simp only [Act.put, s1, s2, s3]))
  (refine takeH (i := 10) (oi := ?o19) (v := ?v19) ?h19 (by kernel_rfl) ?q19 (Or.inl ⟨?w19, ?y19⟩) (by assumption) ?r19; (case h19 => ((simp only [g1, g2, g3]); rfl)); (case q19 => exact fun _ _ _ h => h); (case w19 => rfl); (case y19 => (intro w' hSw; (try dsimp only at hSw); go_simp; (try with_reducible rfl))); (try simp only [Act.put, s1, s2, s3]))
  refine wpAnyH_done (by kernel_rfl) ?_ _
  rotate_left
  ((go_simp; rw [back1 _ _ _ _ _ D.out (by first | assumption | (simp; done))]; simp only [Result.andThen]; rw [Oper.upon_value]); refine hK.out _ _ ?_ (fun hHd => ?_); (focus ((try dsimp only); (refine held_kp ?_; (repeat (first | with_reducible assumption | with_reducible exact Kp.refl _ | with_reducible refine Kp.drew ?_ | with_reducible refine Kp.drewN ?_ _ | with_reducible refine Kp.alloc ?_ _ | ((with_reducible refine Kp.setCell ?_ ?_ _); rotate_left; (focus (first | omega | (simp; done) | (simp; omega)))) | ((with_reducible refine Kp.setCells ?_ _ _ _ ?_); (focus (first | omega | (simp; done) | (simp; omega)))) | with_reducible refine Kp.trans ?_ (by assumption)))))); clear hK K; (try simp only [Act.put]))
  (refine wpAnyH_ready (rs := [2]) (by kernel_rfl) (by simp) ?_; refine AllReadyH.cons (o := ?o21) ?h21 (fun K hK => ?s21) AllReadyH.nil; (case h21 => (first | ((simp only [g1, g2, g3]); rfl) | rfl)); go_simp; (first | (go_at_call 108; refine (IH.out _).mono ?_; rintro e w3 ⟨rfl, kk⟩; have ksz := (hHd.2.trans kk).size; (try (have zb := Blk.kp (by first | with_reducible assumption | exact Blk.new _ _ _ | exact (Blk.new _ _ _).drew) kk; have zc0 := zb.cell 0 rfl; have zf0 := zb.free 0)))); (try dsimp only); refine hK.out _ _ ?_ (fun hHd => ?_); (focus ((try dsimp only); (first | with_reducible assumption | with_reducible exact held_next (by assumption) (by assumption) | with_reducible exact held_alloc (by assumption) _))); clear hK K; (try simp only [Act.put, s1, s2, s3]))
  (refine takeH (i := 9) (oi := ?o22) (v := ?v22) ?h22 (by kernel_rfl) ?q22 (Or.inl ⟨?w22, ?y22⟩) (by assumption) ?r22; (case h22 => ((simp only [g1, g2, g3]); rfl)); (case q22 => exact fun _ _ _ h => h); (case w22 => rfl); (case y22 => (intro w' hSw; (try dsimp only at hSw); go_simp; (try with_reducible rfl))); (try simp only [Act.put, s1, s2, s3]))
  (refine takeH (i := 10) (oi := ?o23) (v := ?v23) ?h23 (by kernel_rfl) ?q23 (Or.inl ⟨?w23, ?y23⟩) (by assumption) ?r23; (case h23 => ((simp only [g1, g2, g3]); rfl)); (case q23 => exact fun _ _ _ h => h); (case w23 => rfl); (case y23 => (intro w' hSw; (try dsimp only at hSw); go_simp; (try with_reducible rfl))); (try simp only [Act.put, s1, s2, s3]))
  refine wpAnyH_done (by kernel_rfl) ?_ _
  rotate_left
  all_goals
    go_wp2_with fail
    (try go_ret)
    exact ⟨rfl, (by (repeat (first | with_reducible assumption | with_reducible exact Kp.refl _ | with_reducible refine Kp.drew ?_ | with_reducible refine Kp.drewN ?_ _ | with_reducible refine Kp.alloc ?_ _ | ((with_reducible refine Kp.setCell ?_ ?_ _); rotate_left; (focus (first | omega | (simp; done) | (simp; omega)))) | with_reducible refine Kp.trans ?_ (by assumption))))⟩
theorem digits_any (n : Nat) : ∀ (_ : n < 18446744073709551616) (w : World), Calls Tryz.prog 108 #[.int .u64 n] w fun e w' => e = .returned (sv (Lib.decDigits n)) ∧ Kp w w' := by
  induction n using Nat.strongRecOn with
  | _ n ih =>
    intro hn w
    rcases Nat.lt_or_ge n 10 with h | h
    · exact digits_small n h w
    · exact digits_more n h hn w (ih (n / 10) (by omega) (by omega))
set_option maxRecDepth 100000 in
set_option maxHeartbeats 2000000 in
theorem number_any (n : Int) (hn : I64 n) (w : World) : Calls Tryz.prog 92 #[.int .i64 n] w fun e w' => e = .returned (sv (Lib.itoa n)) ∧ Kp w w' := by
  obtain ⟨h0, h1⟩ := hn
  unfold Lib.itoa
  by_cases h : n < 0
  · rw [if_pos h]
    have D := Lib.hid (digits_any n.natAbs (by omega))
    have hs := dec_short (u := n.natAbs) (by omega)
    obtain ⟨m, hm⟩ : ∃ m, n.natAbs = m := ⟨_, rfl⟩
    rw [hm] at D hs ⊢
    obtain ⟨t, ht⟩ : ∃ t, Lib.decDigits m = t := ⟨_, rfl⟩
    rw [ht] at D hs ⊢
    have BA := @ba_append
    obtain rfl : n = -(m : Int) := by omega
    have j1 : decide (-(m : Int) < 0) = true := decide_eq_true h
    have e1 : IntKind.i64.wrap (-(m : Int) + 1) = -(m : Int) + 1 := by unfold IntKind.wrap; simp [IntKind.bits, IntKind.signed]; omega
    clear ht hm
    go_enter Tryz.func92, Tryz.ntmps92
    go_wp2_with fail
    rw [show -(-(m : Int) + 1) + 1 = (m : Int) by omega]
    refine (D.out _).mono ?_
    rintro e w1 ⟨rfl, k1⟩
    go_wp2_with fail
    (try go_ret)
    exact ⟨rfl, k1⟩
  · rw [if_neg h]
    have D := Lib.hid (digits_any n.toNat (by omega))
    obtain ⟨m, hm⟩ : ∃ m, n.toNat = m := ⟨_, rfl⟩
    rw [hm] at D ⊢
    obtain ⟨t, ht⟩ : ∃ t, Lib.decDigits m = t := ⟨_, rfl⟩
    rw [ht] at D ⊢
    obtain rfl : n = (m : Int) := by omega
    have j1 : decide ((m : Int) < 0) = false := decide_eq_false h
    clear ht hm
    go_enter Tryz.func92, Tryz.ntmps92
    go_wp2_with fail
    refine (D.out _).mono ?_
    rintro e w1 ⟨rfl, k1⟩
    go_wp2_with fail
    (try go_ret)
    exact ⟨rfl, k1⟩
end Go.Proofs.YtaekeogaakogbaaGreatDoor
