/- The document's digits and numbers, and lines. -/
import Derived.Test.YtkglkbkikgncoaaDoorPut

import Derived.Laws.IdiomStrings

namespace Go.Proofs.YtkglkbkikgncoaaDoor

open Go.RowKit

theorem back1 (w : World) (b cap : Nat) (x : UInt8) (c : Int) (hc : c = x.toNat) (h : w.cell? ⟨b, 0, none⟩ = some (.int .u8 c)) :
    (convert 69 9 (.slice (some ⟨b, 0, none⟩) 1 cap)).run Tryd.prog w = .ok (sv [x]) w := by
  subst hc
  exact run_convert_bytes_back w 69 9 5 ⟨b, 0, none⟩ cap [x] Tryd.underlying69 Tryd.underlying5 Tryd.underlying9 (fun j hj => by
    match j, hj with
    | 0, _ => exact h)
theorem ba_append (l r : List UInt8) : (⟨l.toArray⟩ : ByteArray) ++ ⟨r.toArray⟩ = ⟨(l ++ r).toArray⟩ := by
  apply ByteArray.ext
  simp [ByteArray.data_append]
theorem dig8 (u : Nat) (h : u < 10) : (48 + (u : Int)) = ((UInt8.ofNat (48 + u)).toNat : Int) := by
  rw [UInt8.toNat_ofNat_of_lt' (by simp [UInt8.size]; omega)]; omega
set_option maxRecDepth 100000 in
set_option maxHeartbeats 2000000 in
theorem digits_small (n : Nat) (h : n < 10) (w : World) : Calls Tryd.prog 54 #[.int .u64 n] w fun e w' => e = .returned (sv (Lib.decDigits n)) ∧ Kp w w' := by
  rw [Lib.decDigits, dif_pos h]
  have d := dig8 n h
  obtain ⟨x, hx⟩ : ∃ x, UInt8.ofNat (48 + n) = x := ⟨_, rfl⟩
  rw [hx] at d ⊢
  have D := Lib.hid d
  clear d hx
  have j1 : decide ((n : Int) < 10) = true := decide_eq_true (by omega)
  have b1 : IntKind.u64.wrap (48 + (n : Int)) = 48 + (n : Int) := by unfold IntKind.wrap; simp [IntKind.bits, IntKind.signed]; omega
  have b2 : IntKind.u8.wrap (48 + (n : Int)) = 48 + (n : Int) := by unfold IntKind.wrap; simp [IntKind.bits, IntKind.signed]; omega
  go_enter Tryd.func54, Tryd.ntmps54
  go_wp2
  rw [back1 _ _ _ _ _ D.out (by simp)]
  simp only [Result.andThen]
  rw [Oper.upon_value]
  go_wp2
  (try go_ret)
  exact ⟨rfl, (by (repeat (first | with_reducible assumption | with_reducible exact Kp.refl _ | with_reducible refine Kp.drew ?_ | with_reducible refine Kp.drewN ?_ _ | with_reducible refine Kp.alloc ?_ _ | ((with_reducible refine Kp.setCell ?_ ?_ _); rotate_left; (focus (first | omega | (simp; done) | (simp; omega)))) | with_reducible refine Kp.trans ?_ (by assumption))))⟩
set_option maxRecDepth 100000 in
set_option maxHeartbeats 2000000 in
theorem digits_more (n : Nat) (h : 10 ≤ n) (hn : n < 18446744073709551616) (w : World) (ih : ∀ w', Calls Tryd.prog 54 #[.int .u64 ((n / 10 : Nat) : Int)] w' fun e w'' => e = .returned (sv (Lib.decDigits (n / 10))) ∧ Kp w' w'') :
    Calls Tryd.prog 54 #[.int .u64 n] w fun e w' => e = .returned (sv (Lib.decDigits n)) ∧ Kp w w' := by
  rw [Lib.decDigits, dif_neg (by omega)]
  obtain ⟨q, hq⟩ : ∃ q, n / 10 = q := ⟨_, rfl⟩
  obtain ⟨r, hr⟩ : ∃ r, n % 10 = r := ⟨_, rfl⟩
  have hr1 : r < 10 := by omega
  rw [hq] at ih
  rw [hq, hr]
  have d := dig8 r hr1
  obtain ⟨x, hx⟩ : ∃ x, UInt8.ofNat (48 + r) = x := ⟨_, rfl⟩
  rw [hx] at d ⊢
  have D := Lib.hid d
  have IH := Lib.hid ih
  have e1 : IntKind.u64.wrap ((n : Int) / 10) = (q : Int) := by unfold IntKind.wrap; simp [IntKind.bits, IntKind.signed]; omega
  have e2 : (n : Int).tmod 10 = (r : Int) := by rw [Int.tmod_eq_emod_of_nonneg (by omega)]; omega
  have hs := dec_short (u := q) (by omega)
  obtain ⟨t, ht⟩ : ∃ t, Lib.decDigits q = t := ⟨_, rfl⟩
  rw [ht] at IH hs ⊢
  have hs1 : ¬ 9223372036854775807 < t.length + 1 := by omega
  have BA := @ba_append
  clear d hx hq hr ht hs
  have j1 : decide ((n : Int) < 10) = false := decide_eq_false (by omega)
  have b1 : IntKind.u64.wrap (48 + (r : Int)) = 48 + (r : Int) := by unfold IntKind.wrap; simp [IntKind.bits, IntKind.signed]; omega
  have b2 : IntKind.u8.wrap (48 + (r : Int)) = 48 + (r : Int) := by unfold IntKind.wrap; simp [IntKind.bits, IntKind.signed]; omega
  clear ih
  go_enter Tryd.func54, Tryd.ntmps54
  go_wp2_with fail
  (refine wp_region_held_drew (S := (fun w' => (∀ b o, b < w.heap.size → w'.cell? ⟨b, o, none⟩ = w.cell? ⟨b, o, none⟩) ∧ Kp w w')) (by kernel_rfl) ?_ (fun hHd => ?_); (focus ((try dsimp only); (first | with_reducible assumption | with_reducible exact held_start _ | with_reducible exact held_next (by assumption) (by assumption) | with_reducible exact held_alloc (by assumption) _ | with_reducible exact held_drew (by assumption) | ((with_reducible refine held_kp ?_); (repeat (first | with_reducible assumption | with_reducible exact Kp.refl _ | with_reducible refine Kp.drew ?_ | with_reducible refine Kp.drewN ?_ _ | with_reducible refine Kp.alloc ?_ _ | ((with_reducible refine Kp.setCell ?_ ?_ _); rotate_left; (focus (first | omega | (simp; done) | (simp; omega)))) | with_reducible refine Kp.trans ?_ (by assumption))))))))
  (refine takeH (i := 0) (oi := ?o66) (v := ?v66) ?h66 (by kernel_rfl) ?q66 (Or.inl ⟨?w66, ?y66⟩) (by assumption) ?r66; (case h66 => ((simp only [g1, g3]); rfl)); (case q66 => exact fun _ _ _ h => h); (case w66 => rfl); (case y66 => (intro w' hSw; (try dsimp only at hSw); go_simp; (try with_reducible rfl))); (try simp only [Act.put, s1, s2, s3]))
  (refine takeH (i := 1) (oi := ?o67) (v := ?v67) ?h67 (by kernel_rfl) ?q67 (Or.inl ⟨?w67, ?y67⟩) (by assumption) ?r67; (case h67 => ((simp only [g1, g2, g3]); rfl)); (case q67 => exact fun _ _ _ h => h); (case w67 => rfl); (case y67 => (intro w' hSw; (try dsimp only at hSw); go_simp; (try with_reducible rfl))); (try simp only [Act.put, s1, s2, s3]))
  (refine takeH (i := 3) (oi := ?o68) (v := ?v68) ?h68 (by kernel_rfl) ?q68 (Or.inl ⟨?w68, ?y68⟩) (by assumption) ?r68; (case h68 => ((simp only [g1, g2, g3]); rfl)); (case q68 => exact fun _ _ _ h => h); (case w68 => rfl); (case y68 => (intro w' hSw; (try dsimp only at hSw); go_simp; (try with_reducible rfl))); (try simp only [Act.put, s1, s2, s3]))
  (refine takeH (i := 4) (oi := ?o69) (v := ?v69) ?h69 (by kernel_rfl) ?q69 (Or.inl ⟨?w69, ?y69⟩) (by assumption) ?r69; (case h69 => ((simp only [g1, g2, g3]); rfl)); (case q69 => exact fun _ _ _ h => h); (case w69 => rfl); (case y69 => (intro w' hSw; (try dsimp only at hSw); go_simp; (try with_reducible rfl))); (try simp only [Act.put, s1, s2, s3]))
  (refine takeH (i := 5) (oi := ?o70) (v := ?v70) ?h70 (by kernel_rfl) ?q70 (Or.inl ⟨?w70, ?y70⟩) (by assumption) ?r70; (case h70 => ((simp only [g1, g2, g3]); rfl)); (case q70 => exact fun _ _ _ h => h); (case w70 => rfl); (case y70 => (intro w' hSw; (try dsimp only at hSw); go_simp; (try with_reducible rfl))); (try simp only [Act.put, s1, s2, s3]))
  (refine takeH (i := 6) (oi := ?o71) (v := ?v71) ?h71 (by kernel_rfl) ?q71 (Or.inl ⟨?w71, ?y71⟩) (by assumption) ?r71; (case h71 => ((simp only [g1, g2, g3]); rfl)); (case q71 => exact fun _ _ _ h => h); (case w71 => rfl); (case y71 => (intro w' hSw; (try dsimp only at hSw); go_simp; (try with_reducible rfl))); (try simp only [Act.put, s1, s2, s3]))
  (refine wpAnyH_ready (rs := [2, 7]) (by kernel_rfl) (by simp) ?_; refine (AllReadyH.cons (o := ?o72) ?h72 (fun K hK => ?s72) (AllReadyH.cons (o := ?o73) ?h73 (fun K hK => ?s73) AllReadyH.nil)); (case h72 => (first | ((simp only [g1, g2, g3]); rfl) | rfl)); (case h73 => (first | ((simp only [g1, g2, g3]); rfl) | rfl)))
  (go_simp; (first | (go_at_call 54; refine (IH.out _).mono ?_; rintro e w3 ⟨rfl, kk⟩; have ksz := (hHd.2.trans kk).size; (try (have zb := Blk.kp (by first | with_reducible assumption | exact Blk.new _ _ _ | exact (Blk.new _ _ _).drew) kk; have zc0 := zb.cell 0 rfl; have zf0 := zb.free 0)))); (try dsimp only); refine hK.out _ _ ?_ (fun hHd => ?_); (focus ((try dsimp only); (first | with_reducible assumption | with_reducible exact held_next (by assumption) (by assumption) | with_reducible exact held_alloc (by assumption) _))); clear hK K; (try simp only [Act.put, s1, s2, s3]))
  (refine wpAnyH_ready (rs := [7]) (by kernel_rfl) (by simp) ?_; refine AllReadyH.cons (o := ?o74) ?h74 (fun K hK => ?s74) AllReadyH.nil; (case h74 => (first | ((simp only [g1, g2, g3]); rfl) | rfl)); go_simp; (try dsimp only); refine hK.out _ _ ?_ (fun hHd => ?_); (focus ((try dsimp only); (first | with_reducible assumption | with_reducible exact held_start _ | with_reducible exact held_next (by assumption) (by assumption) | with_reducible exact held_alloc (by assumption) _ | with_reducible exact held_drew (by assumption) | ((with_reducible refine held_kp ?_); (repeat (first | with_reducible assumption | with_reducible exact Kp.refl _ | with_reducible refine Kp.drew ?_ | with_reducible refine Kp.drewN ?_ _ | with_reducible refine Kp.alloc ?_ _ | ((with_reducible refine Kp.setCell ?_ ?_ _); rotate_left; (focus (first | omega | (simp; done) | (simp; omega)))) | with_reducible refine Kp.trans ?_ (by assumption))))))); clear hK K; (try simp only [Act.put, s1, s2, s3]))
  (refine wpAnyH_ready (rs := [8]) (by kernel_rfl) (by simp) ?_; refine AllReadyH.cons (o := ?o75) ?h75 (fun K hK => ?s75) AllReadyH.nil; (case h75 => (first | ((simp only [g1, g2, g3]); rfl) | rfl)); (go_simp; rw [back1 _ _ _ _ _ D.out (by first | assumption | (simp; done))]; simp only [Result.andThen]; rw [Oper.upon_value]); refine hK.out _ _ ?_ (fun hHd => ?_); (focus ((try dsimp only); (refine held_kp ?_; (repeat (first | with_reducible assumption | with_reducible exact Kp.refl _ | with_reducible refine Kp.drew ?_ | with_reducible refine Kp.drewN ?_ _ | with_reducible refine Kp.alloc ?_ _ | ((with_reducible refine Kp.setCell ?_ ?_ _); rotate_left; (focus (first | omega | (simp; done) | (simp; omega)))) | ((with_reducible refine Kp.setCells ?_ _ _ _ ?_); (focus (first | omega | (simp; done) | (simp; omega)))) | with_reducible refine Kp.trans ?_ (by assumption)))))); clear hK K; (try simp only [Act.put]))
  (refine takeH (i := 9) (oi := ?o77) (v := ?v77) ?h77 (by kernel_rfl) ?q77 (Or.inl ⟨?w77, ?y77⟩) (by assumption) ?r77; (case h77 => ((simp only [g1, g2, g3]); rfl)); (case q77 => exact fun _ _ _ h => h); (case w77 => rfl); (case y77 => (intro w' hSw; (try dsimp only at hSw); go_simp; (try with_reducible rfl))); (try simp only [Act.put, s1, s2, s3]))
  (refine takeH (i := 10) (oi := ?o78) (v := ?v78) ?h78 (by kernel_rfl) ?q78 (Or.inl ⟨?w78, ?y78⟩) (by assumption) ?r78; (case h78 => ((simp only [g1, g2, g3]); rfl)); (case q78 => exact fun _ _ _ h => h); (case w78 => rfl); (case y78 => (intro w' hSw; (try dsimp only at hSw); go_simp; (try with_reducible rfl))); (try simp only [Act.put, s1, s2, s3]))
  refine wpAnyH_done (by kernel_rfl) ?_ _
  rotate_left
  (go_simp; (try dsimp only); refine hK.out _ _ ?_ (fun hHd => ?_); (focus ((try dsimp only); (first | with_reducible assumption | with_reducible exact held_start _ | with_reducible exact held_next (by assumption) (by assumption) | with_reducible exact held_alloc (by assumption) _ | with_reducible exact held_drew (by assumption) | ((with_reducible refine held_kp ?_); (repeat (first | with_reducible assumption | with_reducible exact Kp.refl _ | with_reducible refine Kp.drew ?_ | with_reducible refine Kp.drewN ?_ _ | with_reducible refine Kp.alloc ?_ _ | ((with_reducible refine Kp.setCell ?_ ?_ _); rotate_left; (focus (first | omega | (simp; done) | (simp; omega)))) | with_reducible refine Kp.trans ?_ (by assumption))))))); clear hK K; (try simp only [Act.put, s1, s2, s3]))
  (refine wpAnyH_ready (rs := [2, 8]) (by kernel_rfl) (by simp) ?_; refine (AllReadyH.cons (o := ?o79) ?h79 (fun K hK => ?s79) (AllReadyH.cons (o := ?o80) ?h80 (fun K hK => ?s80) AllReadyH.nil)); (case h79 => (first | ((simp only [g1, g2, g3]); rfl) | rfl)); (case h80 => (first | ((simp only [g1, g2, g3]); rfl) | rfl)))
  (go_simp; (first | (go_at_call 54; refine (IH.out _).mono ?_; rintro e w3 ⟨rfl, kk⟩; have ksz := (hHd.2.trans kk).size; (try (have zb := Blk.kp (by first | with_reducible assumption | exact Blk.new _ _ _ | exact (Blk.new _ _ _).drew) kk; have zc0 := zb.cell 0 rfl; have zf0 := zb.free 0)))); (try dsimp only); refine hK.out _ _ ?_ (fun hHd => ?_); (focus ((try dsimp only); (first | with_reducible assumption | with_reducible exact held_next (by assumption) (by assumption) | with_reducible exact held_alloc (by assumption) _))); clear hK K; (try simp only [Act.put, s1, s2, s3]))
  (refine wpAnyH_ready (rs := [8]) (by kernel_rfl) (by simp) ?_; refine AllReadyH.cons (o := ?o81) ?h81 (fun K hK => ?s81) AllReadyH.nil; (case h81 => (first | ((simp only [g1, g2, g3]); rfl) | rfl)); (go_simp; rw [back1 _ _ _ _ _ D.out (by first | assumption | (simp; done))]; simp only [Result.andThen]; rw [Oper.upon_value]); refine hK.out _ _ ?_ (fun hHd => ?_); (focus ((try dsimp only); (refine held_kp ?_; (repeat (first | with_reducible assumption | with_reducible exact Kp.refl _ | with_reducible refine Kp.drew ?_ | with_reducible refine Kp.drewN ?_ _ | with_reducible refine Kp.alloc ?_ _ | ((with_reducible refine Kp.setCell ?_ ?_ _); rotate_left; (focus (first | omega | (simp; done) | (simp; omega)))) | ((with_reducible refine Kp.setCells ?_ _ _ _ ?_); (focus (first | omega | (simp; done) | (simp; omega)))) | with_reducible refine Kp.trans ?_ (by assumption)))))); clear hK K; (try simp only [Act.put]))
  (refine takeH (i := 9) (oi := ?o83) (v := ?v83) ?h83 (by kernel_rfl) ?q83 (Or.inl ⟨?w83, ?y83⟩) (by assumption) ?r83; (case h83 => ((simp only [g1, g2, g3]); rfl)); (case q83 => exact fun _ _ _ h => h); (case w83 => rfl); (case y83 => (intro w' hSw; (try dsimp only at hSw); go_simp; (try with_reducible rfl))); (try simp only [Act.put, s1, s2, s3]))
  (refine takeH (i := 10) (oi := ?o84) (v := ?v84) ?h84 (by kernel_rfl) ?q84 (Or.inl ⟨?w84, ?y84⟩) (by assumption) ?r84; (case h84 => ((simp only [g1, g2, g3]); rfl)); (case q84 => exact fun _ _ _ h => h); (case w84 => rfl); (case y84 => (intro w' hSw; (try dsimp only at hSw); go_simp; (try with_reducible rfl))); (try simp only [Act.put, s1, s2, s3]))
  refine wpAnyH_done (by kernel_rfl) ?_ _
  rotate_left
  ((go_simp; rw [back1 _ _ _ _ _ D.out (by first | assumption | (simp; done))]; simp only [Result.andThen]; rw [Oper.upon_value]); refine hK.out _ _ ?_ (fun hHd => ?_); (focus ((try dsimp only); (refine held_kp ?_; (repeat (first | with_reducible assumption | with_reducible exact Kp.refl _ | with_reducible refine Kp.drew ?_ | with_reducible refine Kp.drewN ?_ _ | with_reducible refine Kp.alloc ?_ _ | ((with_reducible refine Kp.setCell ?_ ?_ _); rotate_left; (focus (first | omega | (simp; done) | (simp; omega)))) | ((with_reducible refine Kp.setCells ?_ _ _ _ ?_); (focus (first | omega | (simp; done) | (simp; omega)))) | with_reducible refine Kp.trans ?_ (by assumption)))))); clear hK K; (try simp only [Act.put]))
  (refine wpAnyH_ready (rs := [2]) (by kernel_rfl) (by simp) ?_; refine AllReadyH.cons (o := ?o86) ?h86 (fun K hK => ?s86) AllReadyH.nil; (case h86 => (first | ((simp only [g1, g2, g3]); rfl) | rfl)); go_simp; (first | (go_at_call 54; refine (IH.out _).mono ?_; rintro e w3 ⟨rfl, kk⟩; have ksz := (hHd.2.trans kk).size; (try (have zb := Blk.kp (by first | with_reducible assumption | exact Blk.new _ _ _ | exact (Blk.new _ _ _).drew) kk; have zc0 := zb.cell 0 rfl; have zf0 := zb.free 0)))); (try dsimp only); refine hK.out _ _ ?_ (fun hHd => ?_); (focus ((try dsimp only); (first | with_reducible assumption | with_reducible exact held_next (by assumption) (by assumption) | with_reducible exact held_alloc (by assumption) _))); clear hK K; (try simp only [Act.put, s1, s2, s3]))
  (refine takeH (i := 9) (oi := ?o87) (v := ?v87) ?h87 (by kernel_rfl) ?q87 (Or.inl ⟨?w87, ?y87⟩) (by assumption) ?r87; (case h87 => ((simp only [g1, g2, g3]); rfl)); (case q87 => exact fun _ _ _ h => h); (case w87 => rfl); (case y87 => (intro w' hSw; (try dsimp only at hSw); go_simp; (try with_reducible rfl))); (try simp only [Act.put, s1, s2, s3]))
  (refine takeH (i := 10) (oi := ?o88) (v := ?v88) ?h88 (by kernel_rfl) ?q88 (Or.inl ⟨?w88, ?y88⟩) (by assumption) ?r88; (case h88 => ((simp only [g1, g2, g3]); rfl)); (case q88 => exact fun _ _ _ h => h); (case w88 => rfl); (case y88 => (intro w' hSw; (try dsimp only at hSw); go_simp; (try with_reducible rfl))); (try simp only [Act.put, s1, s2, s3]))
  refine wpAnyH_done (by kernel_rfl) ?_ _
  rotate_left
  all_goals
    go_wp2_with fail
    (try go_ret)
    exact ⟨rfl, (by (repeat (first | with_reducible assumption | with_reducible exact Kp.refl _ | with_reducible refine Kp.drew ?_ | with_reducible refine Kp.drewN ?_ _ | with_reducible refine Kp.alloc ?_ _ | ((with_reducible refine Kp.setCell ?_ ?_ _); rotate_left; (focus (first | omega | (simp; done) | (simp; omega)))) | with_reducible refine Kp.trans ?_ (by assumption))))⟩
theorem digits_any (n : Nat) : ∀ (_ : n < 18446744073709551616) (w : World), Calls Tryd.prog 54 #[.int .u64 n] w fun e w' => e = .returned (sv (Lib.decDigits n)) ∧ Kp w w' := by
  induction n using Nat.strongRecOn with
  | _ n ih =>
    intro hn w
    rcases Nat.lt_or_ge n 10 with h | h
    · exact digits_small n h w
    · exact digits_more n h hn w (ih (n / 10) (by omega) (by omega))
set_option maxRecDepth 100000 in
set_option maxHeartbeats 2000000 in
theorem number_any (n : Int) (hn : I64 n) (w : World) : Calls Tryd.prog 47 #[.int .i64 n] w fun e w' => e = .returned (sv (Lib.itoa n)) ∧ Kp w w' := by
  obtain ⟨h0, h1⟩ := hn
  unfold Lib.itoa
  by_cases h : n < 0
  · rw [if_pos h]
    have D := Lib.hid (digits_any n.natAbs (by omega))
    have hs := dec_short (u := n.natAbs) (by omega)
    obtain ⟨m, hm⟩ : ∃ m, n.natAbs = m := ⟨_, rfl⟩
    rw [hm] at D hs ⊢
    obtain ⟨t, ht⟩ : ∃ t, Lib.decDigits m = t := ⟨_, rfl⟩
    rw [ht] at D hs ⊢
    have BA := @ba_append
    obtain rfl : n = -(m : Int) := by omega
    have j1 : decide (-(m : Int) < 0) = true := decide_eq_true h
    have e1 : IntKind.i64.wrap (-(m : Int) + 1) = -(m : Int) + 1 := by unfold IntKind.wrap; simp [IntKind.bits, IntKind.signed]; omega
    clear ht hm
    go_enter Tryd.func47, Tryd.ntmps47
    go_wp2_with fail
    rw [show -(-(m : Int) + 1) + 1 = (m : Int) by omega]
    refine (D.out _).mono ?_
    rintro e w1 ⟨rfl, k1⟩
    go_wp2_with fail
    (try go_ret)
    exact ⟨rfl, k1⟩
  · rw [if_neg h]
    have D := Lib.hid (digits_any n.toNat (by omega))
    obtain ⟨m, hm⟩ : ∃ m, n.toNat = m := ⟨_, rfl⟩
    rw [hm] at D ⊢
    obtain ⟨t, ht⟩ : ∃ t, Lib.decDigits m = t := ⟨_, rfl⟩
    rw [ht] at D ⊢
    obtain rfl : n = (m : Int) := by omega
    have j1 : decide ((m : Int) < 0) = false := decide_eq_false h
    clear ht hm
    go_enter Tryd.func47, Tryd.ntmps47
    go_wp2_with fail
    refine (D.out _).mono ?_
    rintro e w1 ⟨rfl, k1⟩
    go_wp2_with fail
    (try go_ret)
    exact ⟨rfl, k1⟩
end Go.Proofs.YtkglkbkikgncoaaDoor
