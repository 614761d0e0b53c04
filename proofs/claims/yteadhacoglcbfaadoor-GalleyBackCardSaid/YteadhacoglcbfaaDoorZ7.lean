/- Part 7 of the proof: The document's digits and numbers, and lines. The document's line. A thing's text: the document's. -/
import Derived.Test.YteadhacoglcbfaaDoorZ6
import Derived.Laws.IdiomStrings
namespace Go.Proofs.YteadhacoglcbfaaDoor

open Go.RowKit

theorem back1 (w : World) (b cap : Nat) (x : UInt8) (c : Int) (hc : c = x.toNat) (h : w.cell? ⟨b, 0, none⟩ = some (.int .u8 c)) :
    (convert 69 9 (.slice (some ⟨b, 0, none⟩) 1 cap)).run Tryd.prog w = .ok (sv [x]) w := by
  subst hc
  exact run_convert_bytes_back w 69 9 5 ⟨b, 0, none⟩ cap [x] Tryd.underlying69 Tryd.underlying5 Tryd.underlying9 (fun j hj => by
    match j, hj with
    | 0, _ => exact h)
theorem ba_append (l r : List UInt8) : (⟨l.toArray⟩ : ByteArray) ++ ⟨r.toArray⟩ = ⟨(l ++ r).toArray⟩ := by
  apply ByteArray.ext
  simp [ByteArray.data_append]
theorem dig8 (u : Nat) (h : u < 10) : (48 + (u : Int)) = ((UInt8.ofNat (48 + u)).toNat : Int) := by
  rw [UInt8.toNat_ofNat_of_lt' (by simp [UInt8.size]; omega)]; omega
set_option maxRecDepth 100000 in
set_option maxHeartbeats 2000000 in
theorem digits_small (n : Nat) (h : n < 10) (w : World) : Calls Tryd.prog 54 #[.int .u64 n] w fun e w' => e = .returned (sv (Lib.decDigits n)) ∧ Kp w w' := by
  rw [Lib.decDigits, dif_pos h]
  have d := dig8 n h
  obtain ⟨x, hx⟩ : ∃ x, UInt8.ofNat (48 + n) = x := ⟨_, rfl⟩
  rw [hx] at d ⊢
  have D := Lib.hid d
  clear d hx
  have j1 : decide ((n : Int) < 10) = true := decide_eq_true (by omega)
  have b1 : IntKind.u64.wrap (48 + (n : Int)) = 48 + (n : Int) := by unfold IntKind.wrap; simp [IntKind.bits, IntKind.signed]; omega
  have b2 : IntKind.u8.wrap (48 + (n : Int)) = 48 + (n : Int) := by unfold IntKind.wrap; simp [IntKind.bits, IntKind.signed]; omega
  go_enter Tryd.func54, Tryd.ntmps54
  go_wp2
  rw [back1 _ _ _ _ _ D.out (by simp)]
  simp only [Result.andThen]
  rw [Oper.upon_value]
  go_wp2
  (try go_ret)
  exact ⟨rfl, (by (repeat (first | with_reducible assumption | with_reducible exact Kp.refl _ | with_reducible refine Kp.drew ?_ | with_reducible refine Kp.drewN ?_ _ | with_reducible refine Kp.alloc ?_ _ | ((with_reducible refine Kp.setCell ?_ ?_ _); rotate_left; (focus (first | omega | (simp; done) | (simp; omega)))) | with_reducible refine Kp.trans ?_ (by assumption))))⟩
set_option maxRecDepth 100000 in
set_option maxHeartbeats 2000000 in
theorem digits_more (n : Nat) (h : 10 ≤ n) (hn : n < 18446744073709551616) (w : World) (ih : ∀ w', Calls Tryd.prog 54 #[.int .u64 ((n / 10 : Nat) : Int)] w' fun e w'' => e = .returned (sv (Lib.decDigits (n / 10))) ∧ Kp w' w'') :
    Calls Tryd.prog 54 #[.int .u64 n] w fun e w' => e = .returned (sv (Lib.decDigits n)) ∧ Kp w w' := by
  rw [Lib.decDigits, dif_neg (by omega)]
  obtain ⟨q, hq⟩ : ∃ q, n / 10 = q := ⟨_, rfl⟩
  obtain ⟨r, hr⟩ : ∃ r, n % 10 = r := ⟨_, rfl⟩
  have hr1 : r < 10 := by omega
  rw [hq] at ih
  rw [hq, hr]
  have d := dig8 r hr1
  obtain ⟨x, hx⟩ : ∃ x, UInt8.ofNat (48 + r) = x := ⟨_, rfl⟩
  rw [hx] at d ⊢
  have D := Lib.hid d
  have IH := Lib.hid ih
  have e1 : IntKind.u64.wrap ((n : Int) / 10) = (q : Int) := by unfold IntKind.wrap; simp [IntKind.bits, IntKind.signed]; omega
  have e2 : (n : Int).tmod 10 = (r : Int) := by rw [Int.tmod_eq_emod_of_nonneg (by omega)]; omega
  have hs := dec_short (u := q) (by omega)
  obtain ⟨t, ht⟩ : ∃ t, Lib.decDigits q = t := ⟨_, rfl⟩
  rw [ht] at IH hs ⊢
  have hs1 : ¬ 9223372036854775807 < t.length + 1 := by omega
  have BA := @ba_append
  clear d hx hq hr ht hs
  have j1 : decide ((n : Int) < 10) = false := decide_eq_false (by omega)
  have b1 : IntKind.u64.wrap (48 + (r : Int)) = 48 + (r : Int) := by unfold IntKind.wrap; simp [IntKind.bits, IntKind.signed]; omega
  have b2 : IntKind.u8.wrap (48 + (r : Int)) = 48 + (r : Int) := by unfold IntKind.wrap; simp [IntKind.bits, IntKind.signed]; omega
  clear ih
  go_enter Tryd.func54, Tryd.ntmps54
  go_wp2_with fail
  (refine wp_region_held_drew (S := (fun w' => (∀ b o, b < w.heap.size → w'.cell? ⟨b, o, none⟩ = w.cell? ⟨b, o, none⟩) ∧ Kp w w')) (by kernel_rfl) ?_ (fun hHd => ?_); (focus ((try dsimp only); (first | with_reducible assumption | with_reducible exact held_start _ | with_reducible exact held_next (by assumption) (by assumption) | with_reducible exact held_alloc (by assumption) _ | with_reducible exact held_drew (by assumption) | ((with_reducible refine held_kp ?_); (repeat (first | with_reducible assumption | with_reducible exact Kp.refl _ | with_reducible refine Kp.drew ?_ | with_reducible refine Kp.drewN ?_ _ | with_reducible refine Kp.alloc ?_ _ | ((with_reducible refine Kp.setCell ?_ ?_ _); rotate_left; (focus (first | omega | (simp; done) | (simp; omega)))) | with_reducible refine Kp.trans ?_ (by assumption))))))))
  (refine takeH (i := 0) (oi := ?o66) (v := ?v66) ?h66 (by kernel_rfl) ?q66 (Or.inl ⟨?w66, ?y66⟩) (by assumption) ?r66; (case h66 => ((simp only [g1, g3]); rfl)); (case q66 => exact fun _ _ _ h => h); (case w66 => rfl); (case y66 => (intro w' hSw; (try dsimp only at hSw); go_simp; (try with_reducible rfl))); (try simp only [Act.put, s1, s2, s3]))
  (refine takeH (i := 1) (oi := ?o67) (v := ?v67) ?h67 (by kernel_rfl) ?q67 (Or.inl ⟨?w67, ?y67⟩) (by assumption) ?r67; (case h67 => ((simp only [g1, g2, g3]); rfl)); (case q67 => exact fun _ _ _ h => h); (case w67 => rfl); (case y67 => (intro w' hSw; (try dsimp only at hSw); go_simp; (try with_reducible rfl))); (try simp only [Act.put, s1, s2, s3]))
  (refine takeH (i := 3) (oi := ?o68) (v := ?v68) ?h68 (by kernel_rfl) ?q68 (Or.inl ⟨?w68, ?y68⟩) (by assumption) ?r68; (case h68 => ((simp only [g1, g2, g3]); rfl)); (case q68 => exact fun _ _ _ h => h); (case w68 => rfl); (case y68 => (intro w' hSw; (try dsimp only at hSw); go_simp; (try with_reducible rfl))); (try simp only [Act.put, s1, s2, s3]))
  (refine takeH (i := 4) (oi := ?o69) (v := ?v69) ?h69 (by kernel_rfl) ?q69 (Or.inl ⟨?w69, ?y69⟩) (by assumption) ?r69; (case h69 => ((simp only [g1, g2, g3]); rfl)); (case q69 => exact fun _ _ _ h => h); (case w69 => rfl); (case y69 => (intro w' hSw; (try dsimp only at hSw); go_simp; (try with_reducible rfl))); (try simp only [Act.put, s1, s2, s3]))
  (refine takeH (i := 5) (oi := ?o70) (v := ?v70) ?h70 (by kernel_rfl) ?q70 (Or.inl ⟨?w70, ?y70⟩) (by assumption) ?r70; (case h70 => ((simp only [g1, g2, g3]); rfl)); (case q70 => exact fun _ _ _ h => h); (case w70 => rfl); (case y70 => (intro w' hSw; (try dsimp only at hSw); go_simp; (try with_reducible rfl))); (try simp only [Act.put, s1, s2, s3]))
  (refine takeH (i := 6) (oi := ?o71) (v := ?v71) ?h71 (by kernel_rfl) ?q71 (Or.inl ⟨?w71, ?y71⟩) (by assumption) ?r71; (case h71 => ((simp only [g1, g2, g3]); rfl)); (case q71 => exact fun _ _ _ h => h); (case w71 => rfl); (case y71 => (intro w' hSw; (try dsimp only at hSw); go_simp; (try with_reducible rfl))); (try simp only [Act.put, s1, s2, s3]))
  (refine wpAnyH_ready (rs := [2, 7]) (by kernel_rfl) (by simp) ?_; refine (AllReadyH.cons (o := ?o72) ?h72 (fun K hK => ?s72) (AllReadyH.cons (o := ?o73) ?h73 (fun K hK => ?s73) AllReadyH.nil)); (case h72 => (first | ((simp only [g1, g2, g3]); rfl) | rfl)); (case h73 => (first | ((simp only [g1, g2, g3]); rfl) | rfl)))
  (go_simp; (first | (go_at_call 54; refine (IH.out _).mono ?_; rintro e w3 ⟨rfl, kk⟩; have ksz := (hHd.2.trans kk).size; (try (have zb := Blk.kp (by first | with_reducible assumption | exact Blk.new _ _ _ | exact (Blk.new _ _ _).drew) kk; have zc0 := zb.cell 0 rfl; have zf0 := zb.free 0)))); (try dsimp only); refine hK.out _ _ ?_ (fun hHd => ?_); (focus ((try dsimp only); (first | with_reducible assumption | with_reducible exact held_next (by assumption) (by assumption) | with_reducible exact held_alloc (by assumption) _))); clear hK K; (try simp only [Act.put, s1, s2, s3]))
  (refine wpAnyH_ready (rs := [7]) (by kernel_rfl) (by simp) ?_; refine AllReadyH.cons (o := ?o74) ?h74 (fun K hK => ?s74) AllReadyH.nil; (case h74 => (first | ((simp only [g1, g2, g3]); rfl) | rfl)); go_simp; (try dsimp only); refine hK.out _ _ ?_ (fun hHd => ?_); (focus ((try dsimp only); (first | with_reducible assumption | with_reducible exact held_start _ | with_reducible exact held_next (by assumption) (by assumption) | with_reducible exact held_alloc (by assumption) _ | with_reducible exact held_drew (by assumption) | ((with_reducible refine held_kp ?_); (repeat (first | with_reducible assumption | with_reducible exact Kp.refl _ | with_reducible refine Kp.drew ?_ | with_reducible refine Kp.drewN ?_ _ | with_reducible refine Kp.alloc ?_ _ | ((with_reducible refine Kp.setCell ?_ ?_ _); rotate_left; (focus (first | omega | (simp; done) | (simp; omega)))) | with_reducible refine Kp.trans ?_ (by assumption))))))); clear hK K; (try simp only [Act.put, s1, s2, s3]))
  (refine wpAnyH_ready (rs := [8]) (by kernel_rfl) (by simp) ?_; refine AllReadyH.cons (o := ?o75) ?h75 (fun K hK => ?s75) AllReadyH.nil; (case h75 => (first | ((simp only [g1, g2, g3]); rfl) | rfl)); (go_simp; rw [back1 _ _ _ _ _ D.out (by first | assumption | (simp; done))]; simp only [Result.andThen]; rw [Oper.upon_value]); refine hK.out _ _ ?_ (fun hHd => ?_); (focus ((try dsimp only); (refine held_kp ?_; (repeat (first | with_reducible assumption | with_reducible exact Kp.refl _ | with_reducible refine Kp.drew ?_ | with_reducible refine Kp.drewN ?_ _ | with_reducible refine Kp.alloc ?_ _ | ((with_reducible refine Kp.setCell ?_ ?_ _); rotate_left; (focus (first | omega | (simp; done) | (simp; omega)))) | ((with_reducible refine Kp.setCells ?_ _ _ _ ?_); (focus (first | omega | (simp; done) | (simp; omega)))) | with_reducible refine Kp.trans ?_ (by assumption)))))); clear hK K; (try simp only [Act.put]))
  (refine takeH (i := 9) (oi := ?o77) (v := ?v77) ?h77 (by kernel_rfl) ?q77 (Or.inl ⟨?w77, ?y77⟩) (by assumption) ?r77; (case h77 => ((simp only [g1, g2, g3]); rfl)); (case q77 => exact fun _ _ _ h => h); (case w77 => rfl); (case y77 => (intro w' hSw; (try dsimp only at hSw); go_simp; (try with_reducible rfl))); (try simp only [Act.put, s1, s2, s3]))
  (refine takeH (i := 10) (oi := ?o78) (v := ?v78) ?h78 (by kernel_rfl) ?q78 (Or.inl ⟨?w78, ?y78⟩) (by assumption) ?r78; (case h78 => ((simp only [g1, g2, g3]); rfl)); (case q78 => exact fun _ _ _ h => h); (case w78 => rfl); (case y78 => (intro w' hSw; (try dsimp only at hSw); go_simp; (try with_reducible rfl))); (try simp only [Act.put, s1, s2, s3]))
  refine wpAnyH_done (by kernel_rfl) ?_ _
  rotate_left
  (go_simp; (try dsimp only); refine hK.out _ _ ?_ (fun hHd => ?_); (focus ((try dsimp only); (first | with_reducible assumption | with_reducible exact held_start _ | with_reducible exact held_next (by assumption) (by assumption) | with_reducible exact held_alloc (by assumption) _ | with_reducible exact held_drew (by assumption) | ((with_reducible refine held_kp ?_); (repeat (first | with_reducible assumption | with_reducible exact Kp.refl _ | with_reducible refine Kp.drew ?_ | with_reducible refine Kp.drewN ?_ _ | with_reducible refine Kp.alloc ?_ _ | ((with_reducible refine Kp.setCell ?_ ?_ _); rotate_left; (focus (first | omega | (simp; done) | (simp; omega)))) | with_reducible refine Kp.trans ?_ (by assumption))))))); clear hK K; (try simp only [Act.put, s1, s2, s3]))
  (refine wpAnyH_ready (rs := [2, 8]) (by kernel_rfl) (by simp) ?_; refine (AllReadyH.cons (o := ?o79) ?h79 (fun K hK => ?s79) (AllReadyH.cons (o := ?o80) ?h80 (fun K hK => ?s80) AllReadyH.nil)); (case h79 => (first | ((simp only [g1, g2, g3]); rfl) | rfl)); (case h80 => (first | ((simp only [g1, g2, g3]); rfl) | rfl)))
  (go_simp; (first | (go_at_call 54; refine (IH.out _).mono ?_; rintro e w3 ⟨rfl, kk⟩; have ksz := (hHd.2.trans kk).size; (try (have zb := Blk.kp (by first | with_reducible assumption | exact Blk.new _ _ _ | exact (Blk.new _ _ _).drew) kk; have zc0 := zb.cell 0 rfl; have zf0 := zb.free 0)))); (try dsimp only); refine hK.out _ _ ?_ (fun hHd => ?_); (focus ((try dsimp only); (first | with_reducible assumption | with_reducible exact held_next (by assumption) (by assumption) | with_reducible exact held_alloc (by assumption) _))); clear hK K; (try simp only [Act.put, s1, s2, s3]))
  (refine wpAnyH_ready (rs := [8]) (by kernel_rfl) (by simp) ?_; refine AllReadyH.cons (o := ?o81) ?h81 (fun K hK => ?s81) AllReadyH.nil; (case h81 => (first | ((simp only [g1, g2, g3]); rfl) | rfl)); (go_simp; rw [back1 _ _ _ _ _ D.out (by first | assumption | (simp; done))]; simp only [Result.andThen]; rw [Oper.upon_value]); refine hK.out _ _ ?_ (fun hHd => ?_); (focus ((try dsimp only); (refine held_kp ?_; (repeat (first | with_reducible assumption | with_reducible exact Kp.refl _ | with_reducible refine Kp.drew ?_ | with_reducible refine Kp.drewN ?_ _ | with_reducible refine Kp.alloc ?_ _ | ((with_reducible refine Kp.setCell ?_ ?_ _); rotate_left; (focus (first | omega | (simp; done) | (simp; omega)))) | ((with_reducible refine Kp.setCells ?_ _ _ _ ?_); (focus (first | omega | (simp; done) | (simp; omega)))) | with_reducible refine Kp.trans ?_ (by assumption)))))); clear hK K; (try simp only [Act.put]))
  (refine takeH (i := 9) (oi := ?o83) (v := ?v83) ?h83 (by kernel_rfl) ?q83 (Or.inl ⟨?w83, ?y83⟩) (by assumption) ?r83; (case h83 => ((simp only [g1, g2, g3]); rfl)); (case q83 => exact fun _ _ _ h => h); (case w83 => rfl); (case y83 => (intro w' hSw; (try dsimp only at hSw); go_simp; (try with_reducible rfl))); (try simp only [Act.put, s1, s2, s3]))
  (refine takeH (i := 10) (oi := ?o84) (v := ?v84) ?h84 (by kernel_rfl) ?q84 (Or.inl ⟨?w84, ?y84⟩) (by assumption) ?r84; (case h84 => ((simp only [g1, g2, g3]); rfl)); (case q84 => exact fun _ _ _ h => h); (case w84 => rfl); (case y84 => (intro w' hSw; (try dsimp only at hSw); go_simp; (try with_reducible rfl))); (try simp only [Act.put, s1, s2, s3]))
  refine wpAnyH_done (by kernel_rfl) ?_ _
  rotate_left
  ((go_simp; rw [back1 _ _ _ _ _ D.out (by first | assumption | (simp; done))]; simp only [Result.andThen]; rw [Oper.upon_value]); refine hK.out _ _ ?_ (fun hHd => ?_); (focus ((try dsimp only); (refine held_kp ?_; (repeat (first | with_reducible assumption | with_reducible exact Kp.refl _ | with_reducible refine Kp.drew ?_ | with_reducible refine Kp.drewN ?_ _ | with_reducible refine Kp.alloc ?_ _ | ((with_reducible refine Kp.setCell ?_ ?_ _); rotate_left; (focus (first | omega | (simp; done) | (simp; omega)))) | ((with_reducible refine Kp.setCells ?_ _ _ _ ?_); (focus (first | omega | (simp; done) | (simp; omega)))) | with_reducible refine Kp.trans ?_ (by assumption)))))); clear hK K; (try simp only [Act.put]))
  (refine wpAnyH_ready (rs := [2]) (by kernel_rfl) (by simp) ?_; refine AllReadyH.cons (o := ?o86) ?h86 (fun K hK => ?s86) AllReadyH.nil; (case h86 => (first | ((simp only [g1, g2, g3]); rfl) | rfl)); go_simp; (first | (go_at_call 54; refine (IH.out _).mono ?_; rintro e w3 ⟨rfl, kk⟩; have ksz := (hHd.2.trans kk).size; (try (have zb := Blk.kp (by first | with_reducible assumption | exact Blk.new _ _ _ | exact (Blk.new _ _ _).drew) kk; have zc0 := zb.cell 0 rfl; have zf0 := zb.free 0)))); (try dsimp only); refine hK.out _ _ ?_ (fun hHd => ?_); (focus ((try dsimp only); (first | with_reducible assumption | with_reducible exact held_next (by assumption) (by assumption) | with_reducible exact held_alloc (by assumption) _))); clear hK K; (try simp only [Act.put, s1, s2, s3]))
  (refine takeH (i := 9) (oi := ?o87) (v := ?v87) ?h87 (by kernel_rfl) ?q87 (Or.inl ⟨?w87, ?y87⟩) (by assumption) ?r87; (case h87 => ((simp only [g1, g2, g3]); rfl)); (case q87 => exact fun _ _ _ h => h); (case w87 => rfl); (case y87 => (intro w' hSw; (try dsimp only at hSw); go_simp; (try with_reducible rfl))); (try simp only [Act.put, s1, s2, s3]))
  (refine takeH (i := 10) (oi := ?o88) (v := ?v88) ?h88 (by kernel_rfl) ?q88 (Or.inl ⟨?w88, ?y88⟩) (by assumption) ?r88; (case h88 => ((simp only [g1, g2, g3]); rfl)); (case q88 => exact fun _ _ _ h => h); (case w88 => rfl); (case y88 => (intro w' hSw; (try dsimp only at hSw); go_simp; (try with_reducible rfl))); (try simp only [Act.put, s1, s2, s3]))
  refine wpAnyH_done (by kernel_rfl) ?_ _
  rotate_left
  all_goals
    go_wp2_with fail
    (try go_ret)
    exact ⟨rfl, (by (repeat (first | with_reducible assumption | with_reducible exact Kp.refl _ | with_reducible refine Kp.drew ?_ | with_reducible refine Kp.drewN ?_ _ | with_reducible refine Kp.alloc ?_ _ | ((with_reducible refine Kp.setCell ?_ ?_ _); rotate_left; (focus (first | omega | (simp; done) | (simp; omega)))) | with_reducible refine Kp.trans ?_ (by assumption))))⟩
theorem digits_any (n : Nat) : ∀ (_ : n < 18446744073709551616) (w : World), Calls Tryd.prog 54 #[.int .u64 n] w fun e w' => e = .returned (sv (Lib.decDigits n)) ∧ Kp w w' := by
  induction n using Nat.strongRecOn with
  | _ n ih =>
    intro hn w
    rcases Nat.lt_or_ge n 10 with h | h
    · exact digits_small n h w
    · exact digits_more n h hn w (ih (n / 10) (by omega) (by omega))
set_option maxRecDepth 100000 in
set_option maxHeartbeats 2000000 in
theorem number_any (n : Int) (hn : I64 n) (w : World) : Calls Tryd.prog 47 #[.int .i64 n] w fun e w' => e = .returned (sv (Lib.itoa n)) ∧ Kp w w' := by
  obtain ⟨h0, h1⟩ := hn
  unfold Lib.itoa
  by_cases h : n < 0
  · rw [if_pos h]
    have D := Lib.hid (digits_any n.natAbs (by omega))
    have hs := dec_short (u := n.natAbs) (by omega)
    obtain ⟨m, hm⟩ : ∃ m, n.natAbs = m := ⟨_, rfl⟩
    rw [hm] at D hs ⊢
    obtain ⟨t, ht⟩ : ∃ t, Lib.decDigits m = t := ⟨_, rfl⟩
    rw [ht] at D hs ⊢
    have BA := @ba_append
    obtain rfl : n = -(m : Int) := by omega
    have j1 : decide (-(m : Int) < 0) = true := decide_eq_true h
    have e1 : IntKind.i64.wrap (-(m : Int) + 1) = -(m : Int) + 1 := by unfold IntKind.wrap; simp [IntKind.bits, IntKind.signed]; omega
    clear ht hm
    go_enter Tryd.func47, Tryd.ntmps47
    go_wp2_with fail
    rw [show -(-(m : Int) + 1) + 1 = (m : Int) by omega]
    refine (D.out _).mono ?_
    rintro e w1 ⟨rfl, k1⟩
    go_wp2_with fail
    (try go_ret)
    exact ⟨rfl, k1⟩
  · rw [if_neg h]
    have D := Lib.hid (digits_any n.toNat (by omega))
    obtain ⟨m, hm⟩ : ∃ m, n.toNat = m := ⟨_, rfl⟩
    rw [hm] at D ⊢
    obtain ⟨t, ht⟩ : ∃ t, Lib.decDigits m = t := ⟨_, rfl⟩
    rw [ht] at D ⊢
    obtain rfl : n = (m : Int) := by omega
    have j1 : decide ((m : Int) < 0) = false := decide_eq_false h
    clear ht hm
    go_enter Tryd.func47, Tryd.ntmps47
    go_wp2_with fail
    refine (D.out _).mono ?_
    rintro e w1 ⟨rfl, k1⟩
    go_wp2_with fail
    (try go_ret)
    exact ⟨rfl, k1⟩
end Go.Proofs.YteadhacoglcbfaaDoor
namespace Go.Proofs.YteadhacoglcbfaaDoor

open Go.RowKit

set_option maxRecDepth 100000 in
set_option maxHeartbeats 2000000 in
theorem refLine_any (a : Option Addr) (cap : Nat) (wd : List UInt8) (ns : List Int) (w : World) (hl : SlOk w 1 enc1 a ns.length cap ns) (hi : ∀ x, x ∈ ns → I64 x) (hw : wd.length ≤ 1000) (hn : ns.length ≤ 1000) :
    Calls Tryd.prog 36 #[sv wd, .slice a ns.length cap] w fun e w' => e = .returned (sv (lineL wd ns)) ∧ Kp w w' := by
  have HL := Lib.hid hl
  have HI := Lib.hid hi
  have hcl := hl.2.1
  have hcm := hl.2.2.1
  unfold maxLen at hcm
  have BA := @ba_append
  clear hl hi
  go_enter Tryd.func36, Tryd.ntmps36
  go_wp2_with fail
  go_loopw [5, 6] (fun v5 v6 wr => ∃ (k : Nat), k ≤ ns.length ∧ v6 = .int .i64 k ∧ v5 = sv (wd ++ (ns.take k).flatMap numL) ∧ Kp w wr) (fun _ v6 _ => ns.length - (intOf v6).toNat)
  case atStart => exact ⟨0, Nat.zero_le _, rfl, by simp, (by (repeat (first | with_reducible assumption | with_reducible exact Kp.refl _ | with_reducible refine Kp.drew ?_ | with_reducible refine Kp.drewN ?_ _ | with_reducible refine Kp.alloc ?_ _ | ((with_reducible refine Kp.setCell ?_ ?_ _); rotate_left; (focus (first | omega | (simp; done) | (simp; omega)))) | with_reducible refine Kp.trans ?_ (by assumption))))⟩
  case round =>
    obtain ⟨k, hk, rfl, rfl, xk⟩ := hrel
    have hfl : ((ns.take k).flatMap numL).length ≤ 22 * 1000 := Nat.le_trans (flat_short fun x hx => HI.out x (List.mem_of_mem_take hx)) (by rw [List.length_take]; omega)
    obtain ⟨t, ht⟩ : ∃ t, (ns.take k).flatMap numL = t := ⟨_, rfl⟩
    obtain ⟨u, hu⟩ : ∃ u, wd ++ t = u := ⟨_, rfl⟩
    have hul : u.length = wd.length + t.length := by rw [← hu, List.length_append]
    rw [ht] at hfl
    rw [ht, hu]
    by_cases hlt : k < ns.length
    · obtain ⟨x, hx⟩ : ∃ x, ns[k]? = some x := ⟨ns[k]'hlt, List.getElem?_eq_getElem _⟩
      have hxi := HI.out x (List.mem_of_getElem? hx)
      have hxs := itoa_short hxi
      have hs := flat_snoc (f := numL) hx
      rw [ht] at hs
      have hs' : u ++ [32] ++ Lib.itoa x = wd ++ (ns.take (k + 1)).flatMap numL := by rw [hs, ← hu]; simp [numL]
      have HS := Lib.hid hs'
      have tl := HL.out.kp xk
      rcases tl.2.2.2 with e | ⟨ga, oa, rfl, hga, r1⟩
      · rw [e] at hlt; simp at hlt
      have d0 := r1 k _ hx 0 _ rfl
      simp only [Nat.add_zero, Nat.mul_one] at d0
      have j1 : decide ((k : Int) < (ns.length : Int)) = true := decide_eq_true (by omega)
      have C := Lib.hid (number_any x hxi)
      obtain ⟨n, hn'⟩ : ∃ n, Lib.itoa x = n := ⟨_, rfl⟩
      rw [hn'] at C HS hxs
      have hs1 : ¬ 9223372036854775807 < u.length + 1 := by omega
      have hs2 : ¬ 9223372036854775807 < u.length + 1 + n.length := by omega
      have hs3 : ¬ 9223372036854775807 < u.length + (n.length + 1) := by omega
      clear tl r1 hx hs hs' ht hu hul hxi hn' hfl hxs HL HI
      go_wp2_with fail
      refine (C.out _).mono ?_
      rintro e w2 ⟨rfl, k2⟩
      have k3 := xk.trans k2
      clear xk k2
      go_wp2_with fail
      go_roundw
      case rel => exact ⟨k + 1, by omega, by go_num, by first | (rw [← HS.out]; simp) | rw [← HS.out], k3⟩
      case measure => simp [intOf]; omega
    · obtain rfl : k = ns.length := by omega
      have j1 : decide ((ns.length : Int) < (ns.length : Int)) = false := decide_eq_false (by omega)
      rw [List.take_length] at ht
      go_wp2_with fail
      (try go_ret)
      exact ⟨by unfold lineL; rw [ht, hu]; rfl, xk⟩
end Go.Proofs.YteadhacoglcbfaaDoor
namespace Go.Proofs.YteadhacoglcbfaaDoor

open Go.RowKit

set_option maxRecDepth 100000 in
set_option maxHeartbeats 2000000 in
theorem refPut_box (p : Put) (hp : p.ok) (w : World) (hk : p.k = 1) :
    Calls Tryd.prog 29 #[.agg #[.int .i64 p.k, .int .i64 p.n, .int .i64 p.l, .int .i64 p.y, .int .i64 p.h]] w fun e w' => e = .returned (sv (lineL [98, 111, 120] [p.n, p.y, p.h])) ∧ Kp w w' := by
  obtain ⟨k, n, l, y, h⟩ := p
  simp only at hk ⊢
  subst hk
  have HP := Lib.hid hp
  have HI : Hid (∀ x, x ∈ [n, y, h] → I64 x) := Lib.hid (by
    obtain ⟨p0, p1, p2, p3, p4⟩ := HP.out
    simp only at p0 p1 p2 p3 p4
    intro x hx
    simp only [List.mem_cons, List.not_mem_nil, or_false] at hx
    rcases hx with rfl | rfl | rfl <;> assumption)
  clear hp
  go_enter Tryd.func29, Tryd.ntmps29
  go_wp2_with fail
  
  refine named_world (F := fun w1 => Blk w1 w.heap.size [.int .i64 1, .int .i64 n, .int .i64 l, .int .i64 y, .int .i64 h] 33 ∧ Kp w w1) ⟨(by (repeat (first | with_reducible assumption | ((with_reducible refine Blk.newL ?_ ?_); (focus (first | (simp; done) | omega)); rfl) | with_reducible refine Blk.drew ?_ | with_reducible refine Blk.drewN ?_ _ | with_reducible refine Blk.alloc ?_ _ | ((with_reducible refine Blk.other ?_ ?_ _); rotate_left; (focus (first | with_reducible assumption | omega | (simp; done) | (simp; omega))))))), (by (repeat (first | with_reducible assumption | with_reducible exact Kp.refl _ | with_reducible refine Kp.drew ?_ | with_reducible refine Kp.drewN ?_ _ | with_reducible refine Kp.alloc ?_ _ | ((with_reducible refine Kp.setCell ?_ ?_ _); rotate_left; (focus (first | omega | (simp; done) | (simp; omega)))) | with_reducible refine Kp.trans ?_ (by assumption))))⟩ ?_; rintro w1 ⟨bp, kw1⟩; have bp_0 := bp.cell 0 rfl; have bp_1 := bp.cell 1 rfl; have bp_2 := bp.cell 2 rfl; have bp_3 := bp.cell 3 rfl; have bp_4 := bp.cell 4 rfl; have bp_ne := bp.lt; have bp_n1 := Nat.lt_add_one_of_lt bp_ne; have bp_n2 := Nat.lt_add_one_of_lt bp_n1
  (refine wp_region_held_drew (S := (fun w' => (∀ b o, b < w1.heap.size → w'.cell? ⟨b, o, none⟩ = w1.cell? ⟨b, o, none⟩) ∧ Kp w1 w')) (by kernel_rfl) ?_ (fun hHd => ?_); (focus ((try dsimp only); (first | with_reducible assumption | with_reducible exact held_start _ | with_reducible exact held_next (by assumption) (by assumption) | with_reducible exact held_alloc (by assumption) _ | with_reducible exact held_drew (by assumption) | ((with_reducible refine held_kp ?_); (repeat (first | with_reducible assumption | with_reducible exact Kp.refl _ | with_reducible refine Kp.drew ?_ | with_reducible refine Kp.drewN ?_ _ | with_reducible refine Kp.alloc ?_ _ | ((with_reducible refine Kp.setCell ?_ ?_ _); rotate_left; (focus (first | omega | (simp; done) | (simp; omega)))) | with_reducible refine Kp.trans ?_ (by assumption))))))))
  (refine takeH (i := 0) (oi := ?o89) (v := ?v89) ?h89 (by kernel_rfl) ?q89 (Or.inl ⟨?w89, ?y89⟩) (by assumption) ?r89; (case h89 => ((simp only [g1, g3]); rfl)); (case q89 => exact fun _ _ _ h => h); (case w89 => rfl); (case y89 => (intro w' hSw; (try dsimp only at hSw); go_simp; (try with_reducible rfl))); (try simp only [Act.put, s1, s2, s3]))
  (refine takeH (i := 1) (oi := ?o90) (v := ?v90) ?h90 (by kernel_rfl) ?q90 (Or.inl ⟨?w90, ?y90⟩) (by assumption) ?r90; (case h90 => ((simp only [g1, g2, g3]); rfl)); (case q90 => exact fun _ _ _ h => h); (case w90 => rfl); (case y90 => (intro w' hSw; (try dsimp only at hSw); go_simp; (try with_reducible rfl))); (try simp only [Act.put, s1, s2, s3]))
  (refine takeH (i := 2) (oi := ?o91) (v := ?v91) ?h91 (by kernel_rfl) ?q91 (Or.inl ⟨?w91, ?y91⟩) (by assumption) ?r91; (case h91 => ((simp only [g1, g2, g3]); rfl)); (case q91 => exact fun _ _ _ h => h); (case w91 => rfl); (case y91 => (intro w' hSw; (try dsimp only at hSw); go_simp; (try with_reducible rfl))); (try simp only [Act.put, s1, s2, s3]))
  (refine takeH (i := 3) (oi := ?o92) (v := ?v92) ?h92 (by kernel_rfl) ?q92 (Or.inl ⟨?w92, ?y92⟩) (by assumption) ?r92; (case h92 => ((simp only [g1, g2, g3]); rfl)); (case q92 => exact fun _ _ _ h => h); (case w92 => rfl); (case y92 => (intro w' hSw; (try dsimp only at hSw); go_simp; (try with_reducible rfl))); (try simp only [Act.put, s1, s2, s3]))
  (refine takeH (i := 4) (oi := ?o93) (v := ?v93) ?h93 (by kernel_rfl) ?q93 (Or.inl ⟨?w93, ?y93⟩) (by assumption) ?r93; (case h93 => ((simp only [g1, g2, g3]); rfl)); (case q93 => exact fun _ _ _ h => h); (case w93 => rfl); (case y93 => (intro w' hSw; (try dsimp only at hSw); go_simp; (try with_reducible rfl))); (try simp only [Act.put, s1, s2, s3]))
  (refine takeH (i := 5) (oi := ?o94) (v := ?v94) ?h94 (by kernel_rfl) ?q94 (Or.inl ⟨?w94, ?y94⟩) (by assumption) ?r94; (case h94 => ((simp only [g1, g2, g3]); rfl)); (case q94 => exact fun _ _ _ h => h); (case w94 => rfl); (case y94 => (intro w' hSw; (try dsimp only at hSw); go_simp; (try with_reducible rfl))); (try simp only [Act.put, s1, s2, s3]))
  (refine takeH (i := 6) (oi := ?o95) (v := ?v95) ?h95 (by kernel_rfl) ?q95 (Or.inl ⟨?w95, ?y95⟩) (by assumption) ?r95; (case h95 => ((simp only [g1, g2, g3]); rfl)); (case q95 => exact fun _ _ _ h => h); (case w95 => rfl); (case y95 => (intro w' hSw; (try dsimp only at hSw); go_simp; (try with_reducible rfl))); (try simp only [Act.put, s1, s2, s3]))
  (refine takeH (i := 7) (oi := ?o96) (v := ?v96) ?h96 (by kernel_rfl) ?q96 (Or.inl ⟨?w96, ?y96⟩) (by assumption) ?r96; (case h96 => ((simp only [g1, g2, g3]); rfl)); (case q96 => exact fun _ _ _ h => h); (case w96 => rfl); (case y96 => (intro w' hSw; (try dsimp only at hSw); go_simp; (try with_reducible rfl))); (try simp only [Act.put, s1, s2, s3]))
  (refine takeH (i := 8) (oi := ?o97) (v := ?v97) ?h97 (by kernel_rfl) ?q97 (Or.inl ⟨?w97, ?y97⟩) (by assumption) ?r97; (case h97 => ((simp only [g1, g2, g3]); rfl)); (case q97 => exact fun _ _ _ h => h); (case w97 => rfl); (case y97 => (intro w' hSw; (try dsimp only at hSw); go_simp; (try with_reducible rfl))); (try simp only [Act.put, s1, s2, s3]))
  (refine takeH (i := 9) (oi := ?o98) (v := ?v98) ?h98 (by kernel_rfl) ?q98 (Or.inl ⟨?w98, ?y98⟩) (by assumption) ?r98; (case h98 => ((simp only [g1, g2, g3]); rfl)); (case q98 => exact fun _ _ _ h => h); (case w98 => rfl); (case y98 => (intro w' hSw; (try dsimp only at hSw); go_simp; (try with_reducible rfl))); (try simp only [Act.put, s1, s2, s3]))
  (refine takeH (i := 10) (oi := ?o99) (v := ?v99) ?h99 (by kernel_rfl) ?q99 (Or.inl ⟨?w99, ?y99⟩) (by assumption) ?r99; (case h99 => ((simp only [g1, g2, g3]); rfl)); (case q99 => exact fun _ _ _ h => h); (case w99 => rfl); (case y99 => (intro w' hSw; (try dsimp only at hSw); go_simp; (try with_reducible rfl))); (try simp only [Act.put, s1, s2, s3]))
  (refine takeH (i := 11) (oi := ?o100) (v := ?v100) ?h100 (by kernel_rfl) ?q100 (Or.inl ⟨?w100, ?y100⟩) (by assumption) ?r100; (case h100 => ((simp only [g1, g2, g3]); rfl)); (case q100 => exact fun _ _ _ h => h); (case w100 => rfl); (case y100 => (intro w' hSw; (try dsimp only at hSw); go_simp; (try with_reducible rfl))); (try simp only [Act.put, s1, s2, s3]))
  (refine takeH (i := 12) (oi := ?o101) (v := ?v101) ?h101 (by kernel_rfl) ?q101 (Or.inl ⟨?w101, ?y101⟩) (by assumption) ?r101; (case h101 => ((simp only [g1, g2, g3]); rfl)); (case q101 => exact fun _ _ _ h => h); (case w101 => rfl); (case y101 => (intro w' hSw; (try dsimp only at hSw); go_simp; (try with_reducible rfl))); (try simp only [Act.put, s1, s2, s3]))
  (refine takeH (i := 13) (oi := ?o102) (v := ?v102) ?h102 (by kernel_rfl) ?q102 (Or.inl ⟨?w102, ?y102⟩) (by assumption) ?r102; (case h102 => ((simp only [g1, g2, g3]); rfl)); (case q102 => exact fun _ _ _ h => h); (case w102 => rfl); (case y102 => (intro w' hSw; (try dsimp only at hSw); go_simp; (try with_reducible rfl))); (try simp only [Act.put, s1, s2, s3]))
  (refine takeH (i := 14) (oi := ?o103) (v := ?v103) ?h103 (by kernel_rfl) ?q103 (Or.inl ⟨?w103, ?y103⟩) (by assumption) ?r103; (case h103 => ((simp only [g1, g2, g3]); rfl)); (case q103 => exact fun _ _ _ h => h); (case w103 => rfl); (case y103 => (intro w' hSw; (try dsimp only at hSw); go_simp; (try with_reducible rfl))); (try simp only [Act.put, s1, s2, s3]))
  refine wpAnyH_done (by kernel_rfl) ?_ _
  go_wp2_with fail
  refine (refLine_any _ _ [98, 111, 120] [n, y, h] _ (sl_blk (t := 2) (by (repeat (first | with_reducible assumption | ((with_reducible refine Blk.newL ?_ ?_); (focus (first | (simp; done) | omega)); rfl) | with_reducible refine Blk.drew ?_ | with_reducible refine Blk.drewN ?_ _ | with_reducible refine Blk.alloc ?_ _ | ((with_reducible refine Blk.other ?_ ?_ _); rotate_left; (focus (first | with_reducible assumption | omega | (simp; done) | (simp; omega))))))) (by simp)) HI.out (by simp) (by simp)).mono ?_
  rintro e w3 ⟨rfl, kk⟩
  go_wp2_with fail
  (try go_ret)
  exact ⟨rfl, (by (repeat (first | with_reducible assumption | with_reducible exact Kp.refl _ | with_reducible refine Kp.drew ?_ | with_reducible refine Kp.drewN ?_ _ | with_reducible refine Kp.alloc ?_ _ | ((with_reducible refine Kp.setCell ?_ ?_ _); rotate_left; (focus (first | omega | (simp; done) | (simp; omega)))) | with_reducible refine Kp.trans ?_ (by assumption))))⟩
set_option maxRecDepth 100000 in
set_option maxHeartbeats 2000000 in
theorem refPut_float (p : Put) (hp : p.ok) (w : World) (hk : p.k = 2) :
    Calls Tryd.prog 29 #[.agg #[.int .i64 p.k, .int .i64 p.n, .int .i64 p.l, .int .i64 p.y, .int .i64 p.h]] w fun e w' => e = .returned (sv (lineL [102, 108, 111, 97, 116] [p.n, p.y, p.h])) ∧ Kp w w' := by
  obtain ⟨k, n, l, y, h⟩ := p
  simp only at hk ⊢
  subst hk
  have HP := Lib.hid hp
  have HI : Hid (∀ x, x ∈ [n, y, h] → I64 x) := Lib.hid (by
    obtain ⟨p0, p1, p2, p3, p4⟩ := HP.out
    simp only at p0 p1 p2 p3 p4
    intro x hx
    simp only [List.mem_cons, List.not_mem_nil, or_false] at hx
    rcases hx with rfl | rfl | rfl <;> assumption)
  clear hp
  go_enter Tryd.func29, Tryd.ntmps29
  go_wp2_with fail
  
  refine named_world (F := fun w1 => Blk w1 w.heap.size [.int .i64 2, .int .i64 n, .int .i64 l, .int .i64 y, .int .i64 h] 33 ∧ Kp w w1) ⟨(by (repeat (first | with_reducible assumption | ((with_reducible refine Blk.newL ?_ ?_); (focus (first | (simp; done) | omega)); rfl) | with_reducible refine Blk.drew ?_ | with_reducible refine Blk.drewN ?_ _ | with_reducible refine Blk.alloc ?_ _ | ((with_reducible refine Blk.other ?_ ?_ _); rotate_left; (focus (first | with_reducible assumption | omega | (simp; done) | (simp; omega))))))), (by (repeat (first | with_reducible assumption | with_reducible exact Kp.refl _ | with_reducible refine Kp.drew ?_ | with_reducible refine Kp.drewN ?_ _ | with_reducible refine Kp.alloc ?_ _ | ((with_reducible refine Kp.setCell ?_ ?_ _); rotate_left; (focus (first | omega | (simp; done) | (simp; omega)))) | with_reducible refine Kp.trans ?_ (by assumption))))⟩ ?_; rintro w1 ⟨bp, kw1⟩; have bp_0 := bp.cell 0 rfl; have bp_1 := bp.cell 1 rfl; have bp_2 := bp.cell 2 rfl; have bp_3 := bp.cell 3 rfl; have bp_4 := bp.cell 4 rfl; have bp_ne := bp.lt; have bp_n1 := Nat.lt_add_one_of_lt bp_ne; have bp_n2 := Nat.lt_add_one_of_lt bp_n1
  (refine wp_region_held_drew (S := (fun w' => (∀ b o, b < w1.heap.size → w'.cell? ⟨b, o, none⟩ = w1.cell? ⟨b, o, none⟩) ∧ Kp w1 w')) (by kernel_rfl) ?_ (fun hHd => ?_); (focus ((try dsimp only); (first | with_reducible assumption | with_reducible exact held_start _ | with_reducible exact held_next (by assumption) (by assumption) | with_reducible exact held_alloc (by assumption) _ | with_reducible exact held_drew (by assumption) | ((with_reducible refine held_kp ?_); (repeat (first | with_reducible assumption | with_reducible exact Kp.refl _ | with_reducible refine Kp.drew ?_ | with_reducible refine Kp.drewN ?_ _ | with_reducible refine Kp.alloc ?_ _ | ((with_reducible refine Kp.setCell ?_ ?_ _); rotate_left; (focus (first | omega | (simp; done) | (simp; omega)))) | with_reducible refine Kp.trans ?_ (by assumption))))))))
  (refine takeH (i := 0) (oi := ?o104) (v := ?v104) ?h104 (by kernel_rfl) ?q104 (Or.inl ⟨?w104, ?y104⟩) (by assumption) ?r104; (case h104 => ((simp only [g1, g3]); rfl)); (case q104 => exact fun _ _ _ h => h); (case w104 => rfl); (case y104 => (intro w' hSw; (try dsimp only at hSw); go_simp; (try with_reducible rfl))); (try simp only [Act.put, s1, s2, s3]))
  (refine takeH (i := 1) (oi := ?o105) (v := ?v105) ?h105 (by kernel_rfl) ?q105 (Or.inl ⟨?w105, ?y105⟩) (by assumption) ?r105; (case h105 => ((simp only [g1, g2, g3]); rfl)); (case q105 => exact fun _ _ _ h => h); (case w105 => rfl); (case y105 => (intro w' hSw; (try dsimp only at hSw); go_simp; (try with_reducible rfl))); (try simp only [Act.put, s1, s2, s3]))
  (refine takeH (i := 2) (oi := ?o106) (v := ?v106) ?h106 (by kernel_rfl) ?q106 (Or.inl ⟨?w106, ?y106⟩) (by assumption) ?r106; (case h106 => ((simp only [g1, g2, g3]); rfl)); (case q106 => exact fun _ _ _ h => h); (case w106 => rfl); (case y106 => (intro w' hSw; (try dsimp only at hSw); go_simp; (try with_reducible rfl))); (try simp only [Act.put, s1, s2, s3]))
  (refine takeH (i := 3) (oi := ?o107) (v := ?v107) ?h107 (by kernel_rfl) ?q107 (Or.inl ⟨?w107, ?y107⟩) (by assumption) ?r107; (case h107 => ((simp only [g1, g2, g3]); rfl)); (case q107 => exact fun _ _ _ h => h); (case w107 => rfl); (case y107 => (intro w' hSw; (try dsimp only at hSw); go_simp; (try with_reducible rfl))); (try simp only [Act.put, s1, s2, s3]))
  (refine takeH (i := 4) (oi := ?o108) (v := ?v108) ?h108 (by kernel_rfl) ?q108 (Or.inl ⟨?w108, ?y108⟩) (by assumption) ?r108; (case h108 => ((simp only [g1, g2, g3]); rfl)); (case q108 => exact fun _ _ _ h => h); (case w108 => rfl); (case y108 => (intro w' hSw; (try dsimp only at hSw); go_simp; (try with_reducible rfl))); (try simp only [Act.put, s1, s2, s3]))
  (refine takeH (i := 5) (oi := ?o109) (v := ?v109) ?h109 (by kernel_rfl) ?q109 (Or.inl ⟨?w109, ?y109⟩) (by assumption) ?r109; (case h109 => ((simp only [g1, g2, g3]); rfl)); (case q109 => exact fun _ _ _ h => h); (case w109 => rfl); (case y109 => (intro w' hSw; (try dsimp only at hSw); go_simp; (try with_reducible rfl))); (try simp only [Act.put, s1, s2, s3]))
  (refine takeH (i := 6) (oi := ?o110) (v := ?v110) ?h110 (by kernel_rfl) ?q110 (Or.inl ⟨?w110, ?y110⟩) (by assumption) ?r110; (case h110 => ((simp only [g1, g2, g3]); rfl)); (case q110 => exact fun _ _ _ h => h); (case w110 => rfl); (case y110 => (intro w' hSw; (try dsimp only at hSw); go_simp; (try with_reducible rfl))); (try simp only [Act.put, s1, s2, s3]))
  (refine takeH (i := 7) (oi := ?o111) (v := ?v111) ?h111 (by kernel_rfl) ?q111 (Or.inl ⟨?w111, ?y111⟩) (by assumption) ?r111; (case h111 => ((simp only [g1, g2, g3]); rfl)); (case q111 => exact fun _ _ _ h => h); (case w111 => rfl); (case y111 => (intro w' hSw; (try dsimp only at hSw); go_simp; (try with_reducible rfl))); (try simp only [Act.put, s1, s2, s3]))
  (refine takeH (i := 8) (oi := ?o112) (v := ?v112) ?h112 (by kernel_rfl) ?q112 (Or.inl ⟨?w112, ?y112⟩) (by assumption) ?r112; (case h112 => ((simp only [g1, g2, g3]); rfl)); (case q112 => exact fun _ _ _ h => h); (case w112 => rfl); (case y112 => (intro w' hSw; (try dsimp only at hSw); go_simp; (try with_reducible rfl))); (try simp only [Act.put, s1, s2, s3]))
  (refine takeH (i := 9) (oi := ?o113) (v := ?v113) ?h113 (by kernel_rfl) ?q113 (Or.inl ⟨?w113, ?y113⟩) (by assumption) ?r113; (case h113 => ((simp only [g1, g2, g3]); rfl)); (case q113 => exact fun _ _ _ h => h); (case w113 => rfl); (case y113 => (intro w' hSw; (try dsimp only at hSw); go_simp; (try with_reducible rfl))); (try simp only [Act.put, s1, s2, s3]))
  (refine takeH (i := 10) (oi := ?o114) (v := ?v114) ?h114 (by kernel_rfl) ?q114 (Or.inl ⟨?w114, ?y114⟩) (by assumption) ?r114; (case h114 => ((simp only [g1, g2, g3]); rfl)); (case q114 => exact fun _ _ _ h => h); (case w114 => rfl); (case y114 => (intro w' hSw; (try dsimp only at hSw); go_simp; (try with_reducible rfl))); (try simp only [Act.put, s1, s2, s3]))
  (refine takeH (i := 11) (oi := ?o115) (v := ?v115) ?h115 (by kernel_rfl) ?q115 (Or.inl ⟨?w115, ?y115⟩) (by assumption) ?r115; (case h115 => ((simp only [g1, g2, g3]); rfl)); (case q115 => exact fun _ _ _ h => h); (case w115 => rfl); (case y115 => (intro w' hSw; (try dsimp only at hSw); go_simp; (try with_reducible rfl))); (try simp only [Act.put, s1, s2, s3]))
  (refine takeH (i := 12) (oi := ?o116) (v := ?v116) ?h116 (by kernel_rfl) ?q116 (Or.inl ⟨?w116, ?y116⟩) (by assumption) ?r116; (case h116 => ((simp only [g1, g2, g3]); rfl)); (case q116 => exact fun _ _ _ h => h); (case w116 => rfl); (case y116 => (intro w' hSw; (try dsimp only at hSw); go_simp; (try with_reducible rfl))); (try simp only [Act.put, s1, s2, s3]))
  (refine takeH (i := 13) (oi := ?o117) (v := ?v117) ?h117 (by kernel_rfl) ?q117 (Or.inl ⟨?w117, ?y117⟩) (by assumption) ?r117; (case h117 => ((simp only [g1, g2, g3]); rfl)); (case q117 => exact fun _ _ _ h => h); (case w117 => rfl); (case y117 => (intro w' hSw; (try dsimp only at hSw); go_simp; (try with_reducible rfl))); (try simp only [Act.put, s1, s2, s3]))
  (refine takeH (i := 14) (oi := ?o118) (v := ?v118) ?h118 (by kernel_rfl) ?q118 (Or.inl ⟨?w118, ?y118⟩) (by assumption) ?r118; (case h118 => ((simp only [g1, g2, g3]); rfl)); (case q118 => exact fun _ _ _ h => h); (case w118 => rfl); (case y118 => (intro w' hSw; (try dsimp only at hSw); go_simp; (try with_reducible rfl))); (try simp only [Act.put, s1, s2, s3]))
  refine wpAnyH_done (by kernel_rfl) ?_ _
  go_wp2_with fail
  refine (refLine_any _ _ [102, 108, 111, 97, 116] [n, y, h] _ (sl_blk (t := 2) (by (repeat (first | with_reducible assumption | ((with_reducible refine Blk.newL ?_ ?_); (focus (first | (simp; done) | omega)); rfl) | with_reducible refine Blk.drew ?_ | with_reducible refine Blk.drewN ?_ _ | with_reducible refine Blk.alloc ?_ _ | ((with_reducible refine Blk.other ?_ ?_ _); rotate_left; (focus (first | with_reducible assumption | omega | (simp; done) | (simp; omega))))))) (by simp)) HI.out (by simp) (by simp)).mono ?_
  rintro e w3 ⟨rfl, kk⟩
  go_wp2_with fail
  (try go_ret)
  exact ⟨rfl, (by (repeat (first | with_reducible assumption | with_reducible exact Kp.refl _ | with_reducible refine Kp.drew ?_ | with_reducible refine Kp.drewN ?_ _ | with_reducible refine Kp.alloc ?_ _ | ((with_reducible refine Kp.setCell ?_ ?_ _); rotate_left; (focus (first | omega | (simp; done) | (simp; omega)))) | with_reducible refine Kp.trans ?_ (by assumption))))⟩
set_option maxRecDepth 100000 in
set_option maxHeartbeats 2000000 in
theorem refPut_rule (p : Put) (hp : p.ok) (w : World) (hk : p.k = 3) :
    Calls Tryd.prog 29 #[.agg #[.int .i64 p.k, .int .i64 p.n, .int .i64 p.l, .int .i64 p.y, .int .i64 p.h]] w fun e w' => e = .returned (sv (lineL [114, 117, 108, 101] [p.y, p.h])) ∧ Kp w w' := by
  obtain ⟨k, n, l, y, h⟩ := p
  simp only at hk ⊢
  subst hk
  have HP := Lib.hid hp
  have HI : Hid (∀ x, x ∈ [y, h] → I64 x) := Lib.hid (by
    obtain ⟨p0, p1, p2, p3, p4⟩ := HP.out
    simp only at p0 p1 p2 p3 p4
    intro x hx
    simp only [List.mem_cons, List.not_mem_nil, or_false] at hx
    rcases hx with rfl | rfl <;> assumption)
  clear hp
  go_enter Tryd.func29, Tryd.ntmps29
  go_wp2_with fail
  
  refine named_world (F := fun w1 => Blk w1 w.heap.size [.int .i64 3, .int .i64 n, .int .i64 l, .int .i64 y, .int .i64 h] 33 ∧ Kp w w1) ⟨(by (repeat (first | with_reducible assumption | ((with_reducible refine Blk.newL ?_ ?_); (focus (first | (simp; done) | omega)); rfl) | with_reducible refine Blk.drew ?_ | with_reducible refine Blk.drewN ?_ _ | with_reducible refine Blk.alloc ?_ _ | ((with_reducible refine Blk.other ?_ ?_ _); rotate_left; (focus (first | with_reducible assumption | omega | (simp; done) | (simp; omega))))))), (by (repeat (first | with_reducible assumption | with_reducible exact Kp.refl _ | with_reducible refine Kp.drew ?_ | with_reducible refine Kp.drewN ?_ _ | with_reducible refine Kp.alloc ?_ _ | ((with_reducible refine Kp.setCell ?_ ?_ _); rotate_left; (focus (first | omega | (simp; done) | (simp; omega)))) | with_reducible refine Kp.trans ?_ (by assumption))))⟩ ?_; rintro w1 ⟨bp, kw1⟩; have bp_0 := bp.cell 0 rfl; have bp_1 := bp.cell 1 rfl; have bp_2 := bp.cell 2 rfl; have bp_3 := bp.cell 3 rfl; have bp_4 := bp.cell 4 rfl; have bp_ne := bp.lt; have bp_n1 := Nat.lt_add_one_of_lt bp_ne; have bp_n2 := Nat.lt_add_one_of_lt bp_n1
  (refine wp_region_held_drew (S := (fun w' => (∀ b o, b < w1.heap.size → w'.cell? ⟨b, o, none⟩ = w1.cell? ⟨b, o, none⟩) ∧ Kp w1 w')) (by kernel_rfl) ?_ (fun hHd => ?_); (focus ((try dsimp only); (first | with_reducible assumption | with_reducible exact held_start _ | with_reducible exact held_next (by assumption) (by assumption) | with_reducible exact held_alloc (by assumption) _ | with_reducible exact held_drew (by assumption) | ((with_reducible refine held_kp ?_); (repeat (first | with_reducible assumption | with_reducible exact Kp.refl _ | with_reducible refine Kp.drew ?_ | with_reducible refine Kp.drewN ?_ _ | with_reducible refine Kp.alloc ?_ _ | ((with_reducible refine Kp.setCell ?_ ?_ _); rotate_left; (focus (first | omega | (simp; done) | (simp; omega)))) | with_reducible refine Kp.trans ?_ (by assumption))))))))
  (refine takeH (i := 0) (oi := ?o119) (v := ?v119) ?h119 (by kernel_rfl) ?q119 (Or.inl ⟨?w119, ?y119⟩) (by assumption) ?r119; (case h119 => ((simp only [g1, g3]); rfl)); (case q119 => exact fun _ _ _ h => h); (case w119 => rfl); (case y119 => (intro w' hSw; (try dsimp only at hSw); go_simp; (try with_reducible rfl))); (try simp only [Act.put, s1, s2, s3]))
  (refine takeH (i := 1) (oi := ?o120) (v := ?v120) ?h120 (by kernel_rfl) ?q120 (Or.inl ⟨?w120, ?y120⟩) (by assumption) ?r120; (case h120 => ((simp only [g1, g2, g3]); rfl)); (case q120 => exact fun _ _ _ h => h); (case w120 => rfl); (case y120 => (intro w' hSw; (try dsimp only at hSw); go_simp; (try with_reducible rfl))); (try simp only [Act.put, s1, s2, s3]))
  (refine takeH (i := 2) (oi := ?o121) (v := ?v121) ?h121 (by kernel_rfl) ?q121 (Or.inl ⟨?w121, ?y121⟩) (by assumption) ?r121; (case h121 => ((simp only [g1, g2, g3]); rfl)); (case q121 => exact fun _ _ _ h => h); (case w121 => rfl); (case y121 => (intro w' hSw; (try dsimp only at hSw); go_simp; (try with_reducible rfl))); (try simp only [Act.put, s1, s2, s3]))
  (refine takeH (i := 3) (oi := ?o122) (v := ?v122) ?h122 (by kernel_rfl) ?q122 (Or.inl ⟨?w122, ?y122⟩) (by assumption) ?r122; (case h122 => ((simp only [g1, g2, g3]); rfl)); (case q122 => exact fun _ _ _ h => h); (case w122 => rfl); (case y122 => (intro w' hSw; (try dsimp only at hSw); go_simp; (try with_reducible rfl))); (try simp only [Act.put, s1, s2, s3]))
  (refine takeH (i := 4) (oi := ?o123) (v := ?v123) ?h123 (by kernel_rfl) ?q123 (Or.inl ⟨?w123, ?y123⟩) (by assumption) ?r123; (case h123 => ((simp only [g1, g2, g3]); rfl)); (case q123 => exact fun _ _ _ h => h); (case w123 => rfl); (case y123 => (intro w' hSw; (try dsimp only at hSw); go_simp; (try with_reducible rfl))); (try simp only [Act.put, s1, s2, s3]))
  (refine takeH (i := 5) (oi := ?o124) (v := ?v124) ?h124 (by kernel_rfl) ?q124 (Or.inl ⟨?w124, ?y124⟩) (by assumption) ?r124; (case h124 => ((simp only [g1, g2, g3]); rfl)); (case q124 => exact fun _ _ _ h => h); (case w124 => rfl); (case y124 => (intro w' hSw; (try dsimp only at hSw); go_simp; (try with_reducible rfl))); (try simp only [Act.put, s1, s2, s3]))
  (refine takeH (i := 6) (oi := ?o125) (v := ?v125) ?h125 (by kernel_rfl) ?q125 (Or.inl ⟨?w125, ?y125⟩) (by assumption) ?r125; (case h125 => ((simp only [g1, g2, g3]); rfl)); (case q125 => exact fun _ _ _ h => h); (case w125 => rfl); (case y125 => (intro w' hSw; (try dsimp only at hSw); go_simp; (try with_reducible rfl))); (try simp only [Act.put, s1, s2, s3]))
  (refine takeH (i := 7) (oi := ?o126) (v := ?v126) ?h126 (by kernel_rfl) ?q126 (Or.inl ⟨?w126, ?y126⟩) (by assumption) ?r126; (case h126 => ((simp only [g1, g2, g3]); rfl)); (case q126 => exact fun _ _ _ h => h); (case w126 => rfl); (case y126 => (intro w' hSw; (try dsimp only at hSw); go_simp; (try with_reducible rfl))); (try simp only [Act.put, s1, s2, s3]))
  (refine takeH (i := 8) (oi := ?o127) (v := ?v127) ?h127 (by kernel_rfl) ?q127 (Or.inl ⟨?w127, ?y127⟩) (by assumption) ?r127; (case h127 => ((simp only [g1, g2, g3]); rfl)); (case q127 => exact fun _ _ _ h => h); (case w127 => rfl); (case y127 => (intro w' hSw; (try dsimp only at hSw); go_simp; (try with_reducible rfl))); (try simp only [Act.put, s1, s2, s3]))
  (refine takeH (i := 9) (oi := ?o128) (v := ?v128) ?h128 (by kernel_rfl) ?q128 (Or.inl ⟨?w128, ?y128⟩) (by assumption) ?r128; (case h128 => ((simp only [g1, g2, g3]); rfl)); (case q128 => exact fun _ _ _ h => h); (case w128 => rfl); (case y128 => (intro w' hSw; (try dsimp only at hSw); go_simp; (try with_reducible rfl))); (try simp only [Act.put, s1, s2, s3]))
  (refine takeH (i := 10) (oi := ?o129) (v := ?v129) ?h129 (by kernel_rfl) ?q129 (Or.inl ⟨?w129, ?y129⟩) (by assumption) ?r129; (case h129 => ((simp only [g1, g2, g3]); rfl)); (case q129 => exact fun _ _ _ h => h); (case w129 => rfl); (case y129 => (intro w' hSw; (try dsimp only at hSw); go_simp; (try with_reducible rfl))); (try simp only [Act.put, s1, s2, s3]))
  (refine takeH (i := 11) (oi := ?o130) (v := ?v130) ?h130 (by kernel_rfl) ?q130 (Or.inl ⟨?w130, ?y130⟩) (by assumption) ?r130; (case h130 => ((simp only [g1, g2, g3]); rfl)); (case q130 => exact fun _ _ _ h => h); (case w130 => rfl); (case y130 => (intro w' hSw; (try dsimp only at hSw); go_simp; (try with_reducible rfl))); (try simp only [Act.put, s1, s2, s3]))
  (refine takeH (i := 12) (oi := ?o131) (v := ?v131) ?h131 (by kernel_rfl) ?q131 (Or.inl ⟨?w131, ?y131⟩) (by assumption) ?r131; (case h131 => ((simp only [g1, g2, g3]); rfl)); (case q131 => exact fun _ _ _ h => h); (case w131 => rfl); (case y131 => (intro w' hSw; (try dsimp only at hSw); go_simp; (try with_reducible rfl))); (try simp only [Act.put, s1, s2, s3]))
  (refine takeH (i := 13) (oi := ?o132) (v := ?v132) ?h132 (by kernel_rfl) ?q132 (Or.inl ⟨?w132, ?y132⟩) (by assumption) ?r132; (case h132 => ((simp only [g1, g2, g3]); rfl)); (case q132 => exact fun _ _ _ h => h); (case w132 => rfl); (case y132 => (intro w' hSw; (try dsimp only at hSw); go_simp; (try with_reducible rfl))); (try simp only [Act.put, s1, s2, s3]))
  (refine takeH (i := 14) (oi := ?o133) (v := ?v133) ?h133 (by kernel_rfl) ?q133 (Or.inl ⟨?w133, ?y133⟩) (by assumption) ?r133; (case h133 => ((simp only [g1, g2, g3]); rfl)); (case q133 => exact fun _ _ _ h => h); (case w133 => rfl); (case y133 => (intro w' hSw; (try dsimp only at hSw); go_simp; (try with_reducible rfl))); (try simp only [Act.put, s1, s2, s3]))
  refine wpAnyH_done (by kernel_rfl) ?_ _
  go_wp2_with fail
  refine (refLine_any _ _ [114, 117, 108, 101] [y, h] _ (sl_blk (t := 2) (by (repeat (first | with_reducible assumption | ((with_reducible refine Blk.newL ?_ ?_); (focus (first | (simp; done) | omega)); rfl) | with_reducible refine Blk.drew ?_ | with_reducible refine Blk.drewN ?_ _ | with_reducible refine Blk.alloc ?_ _ | ((with_reducible refine Blk.other ?_ ?_ _); rotate_left; (focus (first | with_reducible assumption | omega | (simp; done) | (simp; omega))))))) (by simp)) HI.out (by simp) (by simp)).mono ?_
  rintro e w3 ⟨rfl, kk⟩
  go_wp2_with fail
  (try go_ret)
  exact ⟨rfl, (by (repeat (first | with_reducible assumption | with_reducible exact Kp.refl _ | with_reducible refine Kp.drew ?_ | with_reducible refine Kp.drewN ?_ _ | with_reducible refine Kp.alloc ?_ _ | ((with_reducible refine Kp.setCell ?_ ?_ _); rotate_left; (focus (first | omega | (simp; done) | (simp; omega)))) | with_reducible refine Kp.trans ?_ (by assumption))))⟩
set_option maxRecDepth 100000 in
set_option maxHeartbeats 2000000 in
theorem refPut_line (p : Put) (hp : p.ok) (w : World) (hk : p.k = 4) :
    Calls Tryd.prog 29 #[.agg #[.int .i64 p.k, .int .i64 p.n, .int .i64 p.l, .int .i64 p.y, .int .i64 p.h]] w fun e w' => e = .returned (sv (lineL [108, 105, 110, 101] [p.n, p.l, p.y, p.h])) ∧ Kp w w' := by
  obtain ⟨k, n, l, y, h⟩ := p
  simp only at hk ⊢
  subst hk
  have HP := Lib.hid hp
  have HI : Hid (∀ x, x ∈ [n, l, y, h] → I64 x) := Lib.hid (by
    obtain ⟨p0, p1, p2, p3, p4⟩ := HP.out
    simp only at p0 p1 p2 p3 p4
    intro x hx
    simp only [List.mem_cons, List.not_mem_nil, or_false] at hx
    rcases hx with rfl | rfl | rfl | rfl <;> assumption)
  clear hp
  go_enter Tryd.func29, Tryd.ntmps29
  go_wp2_with fail
  
  refine named_world (F := fun w1 => Blk w1 w.heap.size [.int .i64 4, .int .i64 n, .int .i64 l, .int .i64 y, .int .i64 h] 33 ∧ Kp w w1) ⟨(by (repeat (first | with_reducible assumption | ((with_reducible refine Blk.newL ?_ ?_); (focus (first | (simp; done) | omega)); rfl) | with_reducible refine Blk.drew ?_ | with_reducible refine Blk.drewN ?_ _ | with_reducible refine Blk.alloc ?_ _ | ((with_reducible refine Blk.other ?_ ?_ _); rotate_left; (focus (first | with_reducible assumption | omega | (simp; done) | (simp; omega))))))), (by (repeat (first | with_reducible assumption | with_reducible exact Kp.refl _ | with_reducible refine Kp.drew ?_ | with_reducible refine Kp.drewN ?_ _ | with_reducible refine Kp.alloc ?_ _ | ((with_reducible refine Kp.setCell ?_ ?_ _); rotate_left; (focus (first | omega | (simp; done) | (simp; omega)))) | with_reducible refine Kp.trans ?_ (by assumption))))⟩ ?_; rintro w1 ⟨bp, kw1⟩; have bp_0 := bp.cell 0 rfl; have bp_1 := bp.cell 1 rfl; have bp_2 := bp.cell 2 rfl; have bp_3 := bp.cell 3 rfl; have bp_4 := bp.cell 4 rfl; have bp_ne := bp.lt; have bp_n1 := Nat.lt_add_one_of_lt bp_ne; have bp_n2 := Nat.lt_add_one_of_lt bp_n1
  (refine wp_region_held_drew (S := (fun w' => (∀ b o, b < w1.heap.size → w'.cell? ⟨b, o, none⟩ = w1.cell? ⟨b, o, none⟩) ∧ Kp w1 w')) (by kernel_rfl) ?_ (fun hHd => ?_); (focus ((try dsimp only); (first | with_reducible assumption | with_reducible exact held_start _ | with_reducible exact held_next (by assumption) (by assumption) | with_reducible exact held_alloc (by assumption) _ | with_reducible exact held_drew (by assumption) | ((with_reducible refine held_kp ?_); (repeat (first | with_reducible assumption | with_reducible exact Kp.refl _ | with_reducible refine Kp.drew ?_ | with_reducible refine Kp.drewN ?_ _ | with_reducible refine Kp.alloc ?_ _ | ((with_reducible refine Kp.setCell ?_ ?_ _); rotate_left; (focus (first | omega | (simp; done) | (simp; omega)))) | with_reducible refine Kp.trans ?_ (by assumption))))))))
  (refine takeH (i := 0) (oi := ?o134) (v := ?v134) ?h134 (by kernel_rfl) ?q134 (Or.inl ⟨?w134, ?y134⟩) (by assumption) ?r134; (case h134 => ((simp only [g1, g3]); rfl)); (case q134 => exact fun _ _ _ h => h); (case w134 => rfl); (case y134 => (intro w' hSw; (try dsimp only at hSw); go_simp; (try with_reducible rfl))); (try simp only [Act.put, s1, s2, s3]))
  (refine takeH (i := 1) (oi := ?o135) (v := ?v135) ?h135 (by kernel_rfl) ?q135 (Or.inl ⟨?w135, ?y135⟩) (by assumption) ?r135; (case h135 => ((simp only [g1, g2, g3]); rfl)); (case q135 => exact fun _ _ _ h => h); (case w135 => rfl); (case y135 => (intro w' hSw; (try dsimp only at hSw); go_simp; (try with_reducible rfl))); (try simp only [Act.put, s1, s2, s3]))
  (refine takeH (i := 2) (oi := ?o136) (v := ?v136) ?h136 (by kernel_rfl) ?q136 (Or.inl ⟨?w136, ?y136⟩) (by assumption) ?r136; (case h136 => ((simp only [g1, g2, g3]); rfl)); (case q136 => exact fun _ _ _ h => h); (case w136 => rfl); (case y136 => (intro w' hSw; (try dsimp only at hSw); go_simp; (try with_reducible rfl))); (try simp only [Act.put, s1, s2, s3]))
  (refine takeH (i := 3) (oi := ?o137) (v := ?v137) ?h137 (by kernel_rfl) ?q137 (Or.inl ⟨?w137, ?y137⟩) (by assumption) ?r137; (case h137 => ((simp only [g1, g2, g3]); rfl)); (case q137 => exact fun _ _ _ h => h); (case w137 => rfl); (case y137 => (intro w' hSw; (try dsimp only at hSw); go_simp; (try with_reducible rfl))); (try simp only [Act.put, s1, s2, s3]))
  (refine takeH (i := 4) (oi := ?o138) (v := ?v138) ?h138 (by kernel_rfl) ?q138 (Or.inl ⟨?w138, ?y138⟩) (by assumption) ?r138; (case h138 => ((simp only [g1, g2, g3]); rfl)); (case q138 => exact fun _ _ _ h => h); (case w138 => rfl); (case y138 => (intro w' hSw; (try dsimp only at hSw); go_simp; (try with_reducible rfl))); (try simp only [Act.put, s1, s2, s3]))
  (refine takeH (i := 5) (oi := ?o139) (v := ?v139) ?h139 (by kernel_rfl) ?q139 (Or.inl ⟨?w139, ?y139⟩) (by assumption) ?r139; (case h139 => ((simp only [g1, g2, g3]); rfl)); (case q139 => exact fun _ _ _ h => h); (case w139 => rfl); (case y139 => (intro w' hSw; (try dsimp only at hSw); go_simp; (try with_reducible rfl))); (try simp only [Act.put, s1, s2, s3]))
  (refine takeH (i := 6) (oi := ?o140) (v := ?v140) ?h140 (by kernel_rfl) ?q140 (Or.inl ⟨?w140, ?y140⟩) (by assumption) ?r140; (case h140 => ((simp only [g1, g2, g3]); rfl)); (case q140 => exact fun _ _ _ h => h); (case w140 => rfl); (case y140 => (intro w' hSw; (try dsimp only at hSw); go_simp; (try with_reducible rfl))); (try simp only [Act.put, s1, s2, s3]))
  (refine takeH (i := 7) (oi := ?o141) (v := ?v141) ?h141 (by kernel_rfl) ?q141 (Or.inl ⟨?w141, ?y141⟩) (by assumption) ?r141; (case h141 => ((simp only [g1, g2, g3]); rfl)); (case q141 => exact fun _ _ _ h => h); (case w141 => rfl); (case y141 => (intro w' hSw; (try dsimp only at hSw); go_simp; (try with_reducible rfl))); (try simp only [Act.put, s1, s2, s3]))
  (refine takeH (i := 8) (oi := ?o142) (v := ?v142) ?h142 (by kernel_rfl) ?q142 (Or.inl ⟨?w142, ?y142⟩) (by assumption) ?r142; (case h142 => ((simp only [g1, g2, g3]); rfl)); (case q142 => exact fun _ _ _ h => h); (case w142 => rfl); (case y142 => (intro w' hSw; (try dsimp only at hSw); go_simp; (try with_reducible rfl))); (try simp only [Act.put, s1, s2, s3]))
  (refine takeH (i := 9) (oi := ?o143) (v := ?v143) ?h143 (by kernel_rfl) ?q143 (Or.inl ⟨?w143, ?y143⟩) (by assumption) ?r143; (case h143 => ((simp only [g1, g2, g3]); rfl)); (case q143 => exact fun _ _ _ h => h); (case w143 => rfl); (case y143 => (intro w' hSw; (try dsimp only at hSw); go_simp; (try with_reducible rfl))); (try simp only [Act.put, s1, s2, s3]))
  (refine takeH (i := 10) (oi := ?o144) (v := ?v144) ?h144 (by kernel_rfl) ?q144 (Or.inl ⟨?w144, ?y144⟩) (by assumption) ?r144; (case h144 => ((simp only [g1, g2, g3]); rfl)); (case q144 => exact fun _ _ _ h => h); (case w144 => rfl); (case y144 => (intro w' hSw; (try dsimp only at hSw); go_simp; (try with_reducible rfl))); (try simp only [Act.put, s1, s2, s3]))
  (refine takeH (i := 11) (oi := ?o145) (v := ?v145) ?h145 (by kernel_rfl) ?q145 (Or.inl ⟨?w145, ?y145⟩) (by assumption) ?r145; (case h145 => ((simp only [g1, g2, g3]); rfl)); (case q145 => exact fun _ _ _ h => h); (case w145 => rfl); (case y145 => (intro w' hSw; (try dsimp only at hSw); go_simp; (try with_reducible rfl))); (try simp only [Act.put, s1, s2, s3]))
  (refine takeH (i := 12) (oi := ?o146) (v := ?v146) ?h146 (by kernel_rfl) ?q146 (Or.inl ⟨?w146, ?y146⟩) (by assumption) ?r146; (case h146 => ((simp only [g1, g2, g3]); rfl)); (case q146 => exact fun _ _ _ h => h); (case w146 => rfl); (case y146 => (intro w' hSw; (try dsimp only at hSw); go_simp; (try with_reducible rfl))); (try simp only [Act.put, s1, s2, s3]))
  (refine takeH (i := 13) (oi := ?o147) (v := ?v147) ?h147 (by kernel_rfl) ?q147 (Or.inl ⟨?w147, ?y147⟩) (by assumption) ?r147; (case h147 => ((simp only [g1, g2, g3]); rfl)); (case q147 => exact fun _ _ _ h => h); (case w147 => rfl); (case y147 => (intro w' hSw; (try dsimp only at hSw); go_simp; (try with_reducible rfl))); (try simp only [Act.put, s1, s2, s3]))
  (refine takeH (i := 14) (oi := ?o148) (v := ?v148) ?h148 (by kernel_rfl) ?q148 (Or.inl ⟨?w148, ?y148⟩) (by assumption) ?r148; (case h148 => ((simp only [g1, g2, g3]); rfl)); (case q148 => exact fun _ _ _ h => h); (case w148 => rfl); (case y148 => (intro w' hSw; (try dsimp only at hSw); go_simp; (try with_reducible rfl))); (try simp only [Act.put, s1, s2, s3]))
  refine wpAnyH_done (by kernel_rfl) ?_ _
  go_wp2_with fail
  refine (refLine_any _ _ [108, 105, 110, 101] [n, l, y, h] _ (sl_blk (t := 2) (by (repeat (first | with_reducible assumption | ((with_reducible refine Blk.newL ?_ ?_); (focus (first | (simp; done) | omega)); rfl) | with_reducible refine Blk.drew ?_ | with_reducible refine Blk.drewN ?_ _ | with_reducible refine Blk.alloc ?_ _ | ((with_reducible refine Blk.other ?_ ?_ _); rotate_left; (focus (first | with_reducible assumption | omega | (simp; done) | (simp; omega))))))) (by simp)) HI.out (by simp) (by simp)).mono ?_
  rintro e w3 ⟨rfl, kk⟩
  go_wp2_with fail
  (try go_ret)
  exact ⟨rfl, (by (repeat (first | with_reducible assumption | with_reducible exact Kp.refl _ | with_reducible refine Kp.drew ?_ | with_reducible refine Kp.drewN ?_ _ | with_reducible refine Kp.alloc ?_ _ | ((with_reducible refine Kp.setCell ?_ ?_ _); rotate_left; (focus (first | omega | (simp; done) | (simp; omega)))) | with_reducible refine Kp.trans ?_ (by assumption))))⟩
set_option maxRecDepth 100000 in
set_option maxHeartbeats 2000000 in
theorem refPut_thing (p : Put) (hp : p.ok) (w : World) (n1 : p.k ≠ 1) (n2 : p.k ≠ 2) (n3 : p.k ≠ 3) (n4 : p.k ≠ 4) :
    Calls Tryd.prog 29 #[.agg #[.int .i64 p.k, .int .i64 p.n, .int .i64 p.l, .int .i64 p.y, .int .i64 p.h]] w fun e w' => e = .returned (sv (lineL [116, 104, 105, 110, 103] [p.k, p.n, p.l, p.y, p.h])) ∧ Kp w w' := by
  obtain ⟨k, n, l, y, h⟩ := p
  simp only at n1 n2 n3 n4 ⊢
  have HP := Lib.hid hp
  have HI : Hid (∀ x, x ∈ [k, n, l, y, h] → I64 x) := Lib.hid (by
    obtain ⟨p0, p1, p2, p3, p4⟩ := HP.out
    simp only at p0 p1 p2 p3 p4
    intro x hx
    simp only [List.mem_cons, List.not_mem_nil, or_false] at hx
    rcases hx with rfl | rfl | rfl | rfl | rfl <;> assumption)
  clear hp
  go_enter Tryd.func29, Tryd.ntmps29
  go_wp2_with fail
  
  refine named_world (F := fun w1 => Blk w1 w.heap.size [.int .i64 k, .int .i64 n, .int .i64 l, .int .i64 y, .int .i64 h] 33 ∧ Kp w w1) ⟨(by (repeat (first | with_reducible assumption | ((with_reducible refine Blk.newL ?_ ?_); (focus (first | (simp; done) | omega)); rfl) | with_reducible refine Blk.drew ?_ | with_reducible refine Blk.drewN ?_ _ | with_reducible refine Blk.alloc ?_ _ | ((with_reducible refine Blk.other ?_ ?_ _); rotate_left; (focus (first | with_reducible assumption | omega | (simp; done) | (simp; omega))))))), (by (repeat (first | with_reducible assumption | with_reducible exact Kp.refl _ | with_reducible refine Kp.drew ?_ | with_reducible refine Kp.drewN ?_ _ | with_reducible refine Kp.alloc ?_ _ | ((with_reducible refine Kp.setCell ?_ ?_ _); rotate_left; (focus (first | omega | (simp; done) | (simp; omega)))) | with_reducible refine Kp.trans ?_ (by assumption))))⟩ ?_; rintro w1 ⟨bp, kw1⟩; have bp_0 := bp.cell 0 rfl; have bp_1 := bp.cell 1 rfl; have bp_2 := bp.cell 2 rfl; have bp_3 := bp.cell 3 rfl; have bp_4 := bp.cell 4 rfl; have bp_ne := bp.lt; have bp_n1 := Nat.lt_add_one_of_lt bp_ne; have bp_n2 := Nat.lt_add_one_of_lt bp_n1
  (refine wp_region_held_drew (S := (fun w' => (∀ b o, b < w1.heap.size → w'.cell? ⟨b, o, none⟩ = w1.cell? ⟨b, o, none⟩) ∧ Kp w1 w')) (by kernel_rfl) ?_ (fun hHd => ?_); (focus ((try dsimp only); (first | with_reducible assumption | with_reducible exact held_start _ | with_reducible exact held_next (by assumption) (by assumption) | with_reducible exact held_alloc (by assumption) _ | with_reducible exact held_drew (by assumption) | ((with_reducible refine held_kp ?_); (repeat (first | with_reducible assumption | with_reducible exact Kp.refl _ | with_reducible refine Kp.drew ?_ | with_reducible refine Kp.drewN ?_ _ | with_reducible refine Kp.alloc ?_ _ | ((with_reducible refine Kp.setCell ?_ ?_ _); rotate_left; (focus (first | omega | (simp; done) | (simp; omega)))) | with_reducible refine Kp.trans ?_ (by assumption))))))))
  (refine takeH (i := 0) (oi := ?o149) (v := ?v149) ?h149 (by kernel_rfl) ?q149 (Or.inl ⟨?w149, ?y149⟩) (by assumption) ?r149; (case h149 => ((simp only [g1, g3]); rfl)); (case q149 => exact fun _ _ _ h => h); (case w149 => rfl); (case y149 => (intro w' hSw; (try dsimp only at hSw); go_simp; (try with_reducible rfl))); (try simp only [Act.put, s1, s2, s3]))
  (refine takeH (i := 1) (oi := ?o150) (v := ?v150) ?h150 (by kernel_rfl) ?q150 (Or.inl ⟨?w150, ?y150⟩) (by assumption) ?r150; (case h150 => ((simp only [g1, g2, g3]); rfl)); (case q150 => exact fun _ _ _ h => h); (case w150 => rfl); (case y150 => (intro w' hSw; (try dsimp only at hSw); go_simp; (try with_reducible rfl))); (try simp only [Act.put, s1, s2, s3]))
  (refine takeH (i := 2) (oi := ?o151) (v := ?v151) ?h151 (by kernel_rfl) ?q151 (Or.inl ⟨?w151, ?y151⟩) (by assumption) ?r151; (case h151 => ((simp only [g1, g2, g3]); rfl)); (case q151 => exact fun _ _ _ h => h); (case w151 => rfl); (case y151 => (intro w' hSw; (try dsimp only at hSw); go_simp; (try with_reducible rfl))); (try simp only [Act.put, s1, s2, s3]))
  (refine takeH (i := 3) (oi := ?o152) (v := ?v152) ?h152 (by kernel_rfl) ?q152 (Or.inl ⟨?w152, ?y152⟩) (by assumption) ?r152; (case h152 => ((simp only [g1, g2, g3]); rfl)); (case q152 => exact fun _ _ _ h => h); (case w152 => rfl); (case y152 => (intro w' hSw; (try dsimp only at hSw); go_simp; (try with_reducible rfl))); (try simp only [Act.put, s1, s2, s3]))
  (refine takeH (i := 4) (oi := ?o153) (v := ?v153) ?h153 (by kernel_rfl) ?q153 (Or.inl ⟨?w153, ?y153⟩) (by assumption) ?r153; (case h153 => ((simp only [g1, g2, g3]); rfl)); (case q153 => exact fun _ _ _ h => h); (case w153 => rfl); (case y153 => (intro w' hSw; (try dsimp only at hSw); go_simp; (try with_reducible rfl))); (try simp only [Act.put, s1, s2, s3]))
  (refine takeH (i := 5) (oi := ?o154) (v := ?v154) ?h154 (by kernel_rfl) ?q154 (Or.inl ⟨?w154, ?y154⟩) (by assumption) ?r154; (case h154 => ((simp only [g1, g2, g3]); rfl)); (case q154 => exact fun _ _ _ h => h); (case w154 => rfl); (case y154 => (intro w' hSw; (try dsimp only at hSw); go_simp; (try with_reducible rfl))); (try simp only [Act.put, s1, s2, s3]))
  (refine takeH (i := 6) (oi := ?o155) (v := ?v155) ?h155 (by kernel_rfl) ?q155 (Or.inl ⟨?w155, ?y155⟩) (by assumption) ?r155; (case h155 => ((simp only [g1, g2, g3]); rfl)); (case q155 => exact fun _ _ _ h => h); (case w155 => rfl); (case y155 => (intro w' hSw; (try dsimp only at hSw); go_simp; (try with_reducible rfl))); (try simp only [Act.put, s1, s2, s3]))
  (refine takeH (i := 7) (oi := ?o156) (v := ?v156) ?h156 (by kernel_rfl) ?q156 (Or.inl ⟨?w156, ?y156⟩) (by assumption) ?r156; (case h156 => ((simp only [g1, g2, g3]); rfl)); (case q156 => exact fun _ _ _ h => h); (case w156 => rfl); (case y156 => (intro w' hSw; (try dsimp only at hSw); go_simp; (try with_reducible rfl))); (try simp only [Act.put, s1, s2, s3]))
  (refine takeH (i := 8) (oi := ?o157) (v := ?v157) ?h157 (by kernel_rfl) ?q157 (Or.inl ⟨?w157, ?y157⟩) (by assumption) ?r157; (case h157 => ((simp only [g1, g2, g3]); rfl)); (case q157 => exact fun _ _ _ h => h); (case w157 => rfl); (case y157 => (intro w' hSw; (try dsimp only at hSw); go_simp; (try with_reducible rfl))); (try simp only [Act.put, s1, s2, s3]))
  (refine takeH (i := 9) (oi := ?o158) (v := ?v158) ?h158 (by kernel_rfl) ?q158 (Or.inl ⟨?w158, ?y158⟩) (by assumption) ?r158; (case h158 => ((simp only [g1, g2, g3]); rfl)); (case q158 => exact fun _ _ _ h => h); (case w158 => rfl); (case y158 => (intro w' hSw; (try dsimp only at hSw); go_simp; (try with_reducible rfl))); (try simp only [Act.put, s1, s2, s3]))
  (refine takeH (i := 10) (oi := ?o159) (v := ?v159) ?h159 (by kernel_rfl) ?q159 (Or.inl ⟨?w159, ?y159⟩) (by assumption) ?r159; (case h159 => ((simp only [g1, g2, g3]); rfl)); (case q159 => exact fun _ _ _ h => h); (case w159 => rfl); (case y159 => (intro w' hSw; (try dsimp only at hSw); go_simp; (try with_reducible rfl))); (try simp only [Act.put, s1, s2, s3]))
  (refine takeH (i := 11) (oi := ?o160) (v := ?v160) ?h160 (by kernel_rfl) ?q160 (Or.inl ⟨?w160, ?y160⟩) (by assumption) ?r160; (case h160 => ((simp only [g1, g2, g3]); rfl)); (case q160 => exact fun _ _ _ h => h); (case w160 => rfl); (case y160 => (intro w' hSw; (try dsimp only at hSw); go_simp; (try with_reducible rfl))); (try simp only [Act.put, s1, s2, s3]))
  (refine takeH (i := 12) (oi := ?o161) (v := ?v161) ?h161 (by kernel_rfl) ?q161 (Or.inl ⟨?w161, ?y161⟩) (by assumption) ?r161; (case h161 => ((simp only [g1, g2, g3]); rfl)); (case q161 => exact fun _ _ _ h => h); (case w161 => rfl); (case y161 => (intro w' hSw; (try dsimp only at hSw); go_simp; (try with_reducible rfl))); (try simp only [Act.put, s1, s2, s3]))
  (refine takeH (i := 13) (oi := ?o162) (v := ?v162) ?h162 (by kernel_rfl) ?q162 (Or.inl ⟨?w162, ?y162⟩) (by assumption) ?r162; (case h162 => ((simp only [g1, g2, g3]); rfl)); (case q162 => exact fun _ _ _ h => h); (case w162 => rfl); (case y162 => (intro w' hSw; (try dsimp only at hSw); go_simp; (try with_reducible rfl))); (try simp only [Act.put, s1, s2, s3]))
  (refine takeH (i := 14) (oi := ?o163) (v := ?v163) ?h163 (by kernel_rfl) ?q163 (Or.inl ⟨?w163, ?y163⟩) (by assumption) ?r163; (case h163 => ((simp only [g1, g2, g3]); rfl)); (case q163 => exact fun _ _ _ h => h); (case w163 => rfl); (case y163 => (intro w' hSw; (try dsimp only at hSw); go_simp; (try with_reducible rfl))); (try simp only [Act.put, s1, s2, s3]))
  refine wpAnyH_done (by kernel_rfl) ?_ _
  go_wp2_with fail
  refine (refLine_any _ _ [116, 104, 105, 110, 103] [k, n, l, y, h] _ (sl_blk (t := 2) (by (repeat (first | with_reducible assumption | ((with_reducible refine Blk.newL ?_ ?_); (focus (first | (simp; done) | omega)); rfl) | with_reducible refine Blk.drew ?_ | with_reducible refine Blk.drewN ?_ _ | with_reducible refine Blk.alloc ?_ _ | ((with_reducible refine Blk.other ?_ ?_ _); rotate_left; (focus (first | with_reducible assumption | omega | (simp; done) | (simp; omega))))))) (by simp)) HI.out (by simp) (by simp)).mono ?_
  rintro e w3 ⟨rfl, kk⟩
  go_wp2_with fail
  (try go_ret)
  exact ⟨rfl, (by (repeat (first | with_reducible assumption | with_reducible exact Kp.refl _ | with_reducible refine Kp.drew ?_ | with_reducible refine Kp.drewN ?_ _ | with_reducible refine Kp.alloc ?_ _ | ((with_reducible refine Kp.setCell ?_ ?_ _); rotate_left; (focus (first | omega | (simp; done) | (simp; omega)))) | with_reducible refine Kp.trans ?_ (by assumption))))⟩
theorem refPut_any (p : Put) (hp : p.ok) (w : World) :
    Calls Tryd.prog 29 #[.agg #[.int .i64 p.k, .int .i64 p.n, .int .i64 p.l, .int .i64 p.y, .int .i64 p.h]] w fun e w' => e = .returned (sv (putL p)) ∧ Kp w w' := by
  unfold putL
  by_cases h1 : p.k = 1
  · rw [if_pos h1]; exact refPut_box p hp w h1
  · rw [if_neg h1]
    by_cases h2 : p.k = 2
    · rw [if_pos h2]; exact refPut_float p hp w h2
    · rw [if_neg h2]
      by_cases h3 : p.k = 3
      · rw [if_pos h3]; exact refPut_rule p hp w h3
      · rw [if_neg h3]
        by_cases h4 : p.k = 4
        · rw [if_pos h4]; exact refPut_line p hp w h4
        · rw [if_neg h4]; exact refPut_thing p hp w h1 h2 h3 h4
end Go.Proofs.YteadhacoglcbfaaDoor
