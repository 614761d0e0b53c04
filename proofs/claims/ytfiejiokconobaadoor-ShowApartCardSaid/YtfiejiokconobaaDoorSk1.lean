/- What a lane shows at a height: the program's and the document's. -/
import Derived.Test.YtfiejiokconobaaDoorRput

import Derived.Test.YtfiejiokconobaaDoorAll

namespace Go.Proofs.YtfiejiokconobaaDoor

open Go.RowKit

def heldI (n : Int) : Int := max (-1125899906842624) (min n 1125899906842624)
theorem heldI_eq (n : Int) : min (max n (-1125899906842624)) 1125899906842624 = heldI n := by unfold heldI; omega
theorem heldI_le (n : Int) : -1125899906842624 ≤ heldI n ∧ heldI n ≤ 1125899906842624 := by unfold heldI; omega
theorem held_any (n : Int) (w : World) : Calls Tryd.prog 41 #[.int .i64 n] w fun e w' => e = .returned (.int .i64 (heldI n)) ∧ Kp w w' := by
  have H := Lib.hid (heldI_eq n)
  go_enter Tryd.func41, Tryd.ntmps41
  go_wp2
  (try go_ret)
  exact ⟨by rw [← H.out]; rfl, (by (repeat (first | with_reducible assumption | with_reducible exact Kp.refl _ | with_reducible refine Kp.drew ?_ | with_reducible refine Kp.drewN ?_ _ | with_reducible refine Kp.alloc ?_ _ | ((with_reducible refine Kp.setCell ?_ ?_ _); rotate_left; (focus (first | omega | (simp; done) | (simp; omega)))) | with_reducible refine Kp.trans ?_ (by assumption))))⟩
theorem refHeld_any (n : Int) (w : World) : Calls Tryd.prog 42 #[.int .i64 n] w fun e w' => e = .returned (.int .i64 (heldI n)) ∧ Kp w w' := by
  go_enter Tryd.func42, Tryd.ntmps42
  go_wp2
  (try go_ret)
  exact ⟨rfl, (by (repeat (first | with_reducible assumption | with_reducible exact Kp.refl _ | with_reducible refine Kp.drew ?_ | with_reducible refine Kp.drewN ?_ _ | with_reducible refine Kp.alloc ?_ _ | ((with_reducible refine Kp.setCell ?_ ?_ _); rotate_left; (focus (first | omega | (simp; done) | (simp; omega)))) | with_reducible refine Kp.trans ?_ (by assumption))))⟩
set_option maxRecDepth 100000 in
set_option maxHeartbeats 2000000 in
theorem feet_any (p : Put) (w : World) :
    Calls Tryd.prog 29 #[.agg #[.int .i64 p.k, .int .i64 p.n, .int .i64 p.l, .int .i64 p.y, .int .i64 p.h]] w fun e w' => e = .returned (.tuple #[.int .i64 (heldI p.y), .int .i64 (heldI p.y + heldI p.h)]) ∧ Kp w w' := by
  obtain ⟨k, n, l, y, h⟩ := p
  simp only
  have hy := heldI_le y
  have hh := heldI_le h
  have C1 := Lib.hid (held_any y)
  have C2 := Lib.hid (held_any h)
  obtain ⟨Y, hY⟩ : ∃ Y, heldI y = Y := ⟨_, rfl⟩
  obtain ⟨H, hH⟩ : ∃ H, heldI h = H := ⟨_, rfl⟩
  rw [hY] at hy C1 ⊢
  rw [hH] at hh C2 ⊢
  obtain ⟨hy1, hy2⟩ := hy
  obtain ⟨hh1, hh2⟩ := hh
  clear hY hH
  have e1 : IntKind.i64.wrap (Y + H) = Y + H := by unfold IntKind.wrap; simp [IntKind.bits, IntKind.signed]; omega
  go_enter Tryd.func29, Tryd.ntmps29
  go_wp2_with fail
  
  refine named_world (F := fun w1 => Blk w1 w.heap.size [.int .i64 k, .int .i64 n, .int .i64 l, .int .i64 y, .int .i64 h] 30 ∧ Kp w w1) ⟨(by (repeat (first | with_reducible assumption | ((with_reducible refine Blk.newL ?_ ?_); (focus (first | (simp; done) | omega)); rfl) | with_reducible refine Blk.drew ?_ | with_reducible refine Blk.drewN ?_ _ | with_reducible refine Blk.alloc ?_ _ | ((with_reducible refine Blk.other ?_ ?_ _); rotate_left; (focus (first | with_reducible assumption | omega | (simp; done) | (simp; omega))))))), (by (repeat (first | with_reducible assumption | with_reducible exact Kp.refl _ | with_reducible refine Kp.drew ?_ | with_reducible refine Kp.drewN ?_ _ | with_reducible refine Kp.alloc ?_ _ | ((with_reducible refine Kp.setCell ?_ ?_ _); rotate_left; (focus (first | omega | (simp; done) | (simp; omega)))) | with_reducible refine Kp.trans ?_ (by assumption))))⟩ ?_; rintro w1 ⟨bp, kw1⟩; have bp_0 := bp.cell 0 rfl; have bp_1 := bp.cell 1 rfl; have bp_2 := bp.cell 2 rfl; have bp_3 := bp.cell 3 rfl; have bp_4 := bp.cell 4 rfl; have bp_ne := bp.lt; have bp_n1 := Nat.lt_add_one_of_lt bp_ne; have bp_n2 := Nat.lt_add_one_of_lt bp_n1
  (refine wp_region_held_drew (S := (fun w' => (∀ b o, b < w1.heap.size → w'.cell? ⟨b, o, none⟩ = w1.cell? ⟨b, o, none⟩) ∧ Kp w1 w')) (by kernel_rfl) ?_ (fun hHd => ?_); (focus ((try dsimp only); (first | with_reducible assumption | with_reducible exact held_start _ | with_reducible exact held_next (by assumption) (by assumption) | with_reducible exact held_alloc (by assumption) _ | with_reducible exact held_drew (by assumption) | ((with_reducible refine held_kp ?_); (repeat (first | with_reducible assumption | with_reducible exact Kp.refl _ | with_reducible refine Kp.drew ?_ | with_reducible refine Kp.drewN ?_ _ | with_reducible refine Kp.alloc ?_ _ | ((with_reducible refine Kp.setCell ?_ ?_ _); rotate_left; (focus (first | omega | (simp; done) | (simp; omega)))) | with_reducible refine Kp.trans ?_ (by assumption))))))))
  (refine takeH (i := 0) (oi := ?o1) (v := ?v1) ?h1 (by kernel_rfl) ?q1 (Or.inl ⟨?w1, ?y1⟩) (by assumption) ?r1; (case h1 => ((simp only [g1, g3]); rfl)); (case q1 => exact fun _ _ _ h => h); (case w1 => rfl); (case y1 => (intro w' hSw; (try dsimp only at hSw); go_simp; (try with_reducible rfl))); (try simp only [Act.put, s1, s2, s3]))
  (refine takeH (i := 1) (oi := ?o2) (v := ?v2) ?h2 (by kernel_rfl) ?q2 (Or.inl ⟨?w2, ?y2⟩) (by assumption) ?r2; (case h2 => ((simp only [g1, g2, g3]); rfl)); (case q2 => exact fun _ _ _ h => h); (case w2 => rfl); (case y2 => (intro w' hSw; (try dsimp only at hSw); go_simp; (try with_reducible rfl))); (try simp only [Act.put, s1, s2, s3]))
  (refine takeH (i := 3) (oi := ?o3) (v := ?v3) ?h3 (by kernel_rfl) ?q3 (Or.inl ⟨?w3, ?y3⟩) (by assumption) ?r3; (case h3 => ((simp only [g1, g2, g3]); rfl)); (case q3 => exact fun _ _ _ h => h); (case w3 => rfl); (case y3 => (intro w' hSw; (try dsimp only at hSw); go_simp; (try with_reducible rfl))); (try simp only [Act.put, s1, s2, s3]))
  (refine takeH (i := 4) (oi := ?o4) (v := ?v4) ?h4 (by kernel_rfl) ?q4 (Or.inl ⟨?w4, ?y4⟩) (by assumption) ?r4; (case h4 => ((simp only [g1, g2, g3]); rfl)); (case q4 => exact fun _ _ _ h => h); (case w4 => rfl); (case y4 => (intro w' hSw; (try dsimp only at hSw); go_simp; (try with_reducible rfl))); (try simp only [Act.put, s1, s2, s3]))
  (refine takeH (i := 6) (oi := ?o5) (v := ?v5) ?h5 (by kernel_rfl) ?q5 (Or.inl ⟨?w5, ?y5⟩) (by assumption) ?r5; (case h5 => ((simp only [g1, g2, g3]); rfl)); (case q5 => exact fun _ _ _ h => h); (case w5 => rfl); (case y5 => (intro w' hSw; (try dsimp only at hSw); go_simp; (try with_reducible rfl))); (try simp only [Act.put, s1, s2, s3]))
  (refine takeH (i := 7) (oi := ?o6) (v := ?v6) ?h6 (by kernel_rfl) ?q6 (Or.inl ⟨?w6, ?y6⟩) (by assumption) ?r6; (case h6 => ((simp only [g1, g2, g3]); rfl)); (case q6 => exact fun _ _ _ h => h); (case w6 => rfl); (case y6 => (intro w' hSw; (try dsimp only at hSw); go_simp; (try with_reducible rfl))); (try simp only [Act.put, s1, s2, s3]))
  (refine wpAnyH_ready (rs := [2]) (by kernel_rfl) (by simp) ?_; refine AllReadyH.cons (o := ?o7) ?h7 (fun K hK => ?s7) AllReadyH.nil; (case h7 => (first | ((simp only [g1, g2, g3]); rfl) | rfl)); (go_simp; go_at_call 41; refine (C1.out _).mono ?_; rintro e w3 ⟨rfl, kk⟩; (try dsimp only)); refine hK.out _ _ ?_ (fun hHd => ?_); (focus ((try dsimp only); exact held_kp (hHd.2.trans kk))); clear hK K; (try simp only [Act.put]))
  (refine wpAnyH_ready (rs := [5]) (by kernel_rfl) (by simp) ?_; refine AllReadyH.cons (o := ?o9) ?h9 (fun K hK => ?s9) AllReadyH.nil; (case h9 => (first | ((simp only [g1, g2, g3]); rfl) | rfl)); (go_simp; go_at_call 41; refine (C1.out _).mono ?_; rintro e w4 ⟨rfl, kk⟩; (try dsimp only)); refine hK.out _ _ ?_ (fun hHd => ?_); (focus ((try dsimp only); exact held_kp (hHd.2.trans kk))); clear hK K; (try simp only [Act.put]))
  (refine wpAnyH_ready (rs := [8]) (by kernel_rfl) (by simp) ?_; refine AllReadyH.cons (o := ?o11) ?h11 (fun K hK => ?s11) AllReadyH.nil; (case h11 => (first | ((simp only [g1, g2, g3]); rfl) | rfl)); (go_simp; go_at_call 41; refine (C2.out _).mono ?_; rintro e w5 ⟨rfl, kk⟩; (try dsimp only)); refine hK.out _ _ ?_ (fun hHd => ?_); (focus ((try dsimp only); exact held_kp (hHd.2.trans kk))); clear hK K; (try simp only [Act.put]))
  (refine takeH (i := 9) (oi := ?o13) (v := ?v13) ?h13 (by kernel_rfl) ?q13 (Or.inl ⟨?w13, ?y13⟩) (by assumption) ?r13; (case h13 => ((simp only [g1, g2, g3]); rfl)); (case q13 => exact fun _ _ _ h => h); (case w13 => rfl); (case y13 => (intro w' hSw; (try dsimp only at hSw); go_simp; (try with_reducible rfl))); (try simp only [Act.put, s1, s2, s3]))
  (refine takeH (i := 10) (oi := ?o14) (v := ?v14) ?h14 (by kernel_rfl) ?q14 (Or.inl ⟨?w14, ?y14⟩) (by assumption) ?r14; (case h14 => ((simp only [g1, g2, g3]); rfl)); (case q14 => exact fun _ _ _ h => h); (case w14 => rfl); (case y14 => (intro w' hSw; (try dsimp only at hSw); go_simp; (try with_reducible rfl))); (try simp only [Act.put, s1, s2, s3]))
  (refine takeH (i := 11) (oi := ?o15) (v := ?v15) ?h15 (by kernel_rfl) ?q15 (Or.inl ⟨?w15, ?y15⟩) (by assumption) ?r15; (case h15 => ((simp only [g1, g2, g3]); rfl)); (case q15 => exact fun _ _ _ h => h); (case w15 => rfl); (case y15 => (intro w' hSw; (try dsimp only at hSw); go_simp; (try with_reducible rfl))); (try simp only [Act.put, s1, s2, s3]))
  refine wpAnyH_done (by kernel_rfl) ?_ _
  go_wp2_with fail
  go_ret2
  exact ⟨rfl, (by (repeat (first | with_reducible assumption | with_reducible exact Kp.refl _ | with_reducible refine Kp.drew ?_ | with_reducible refine Kp.drewN ?_ _ | with_reducible refine Kp.alloc ?_ _ | ((with_reducible refine Kp.setCell ?_ ?_ _); rotate_left; (focus (first | omega | (simp; done) | (simp; omega)))) | with_reducible refine Kp.trans ?_ (by assumption))))⟩
def covers (y : Int) (p : Put) : Bool := decide (heldI p.y ≤ y) && decide (y < heldI p.y + heldI p.h)
def symB (k : Int) : UInt8 := if k = 1 then 35 else if k = 2 then 70 else if k = 3 then 45 else if k = 4 then 110 else 63
def signB (l : List Put) (y : Int) : UInt8 := (l.find? (covers y)).elim 46 fun p => symB p.k
theorem find_hit {l : List Put} {k : Nat} {p : Put} {c : Put → Bool} (h : (l.take k).find? c = none) (hk : l[k]? = some p) (hc : c p = true) : l.find? c = some p := by
  rw [cut_at hk, List.find?_append, h]; simp [hc]
theorem find_next {l : List Put} {k : Nat} {p : Put} {c : Put → Bool} (h : (l.take k).find? c = none) (hk : l[k]? = some p) (hc : c p = false) : (l.take (k + 1)).find? c = none := by
  rw [List.take_add_one, hk, List.find?_append, h]; simp [hc]
set_option maxRecDepth 100000 in
set_option maxHeartbeats 4000000 in
theorem sign_any (x : Int) (a : Option Addr) (cap : Nat) (l : List Put) (y : Int) (w : World) (he : Env w) (hl : SlOk w 5 Put.cells a l.length cap l) :
    Calls Tryd.prog 30 #[.agg #[.int .i64 x, .slice a l.length cap], .int .i64 y] w fun e w' => e = .returned (.int .u8 ((signB l y).toNat : Int)) ∧ Kp w w' := by
  have HE := Lib.hid he
  have HL := Lib.hid hl
  have hcl := hl.2.1
  have hcm := hl.2.2.1
  unfold maxLen at hcm
  clear he hl
  go_enter Tryd.func30, Tryd.ntmps30
  go_wp2_with fail
  go_loopw [12] (fun v12 wr => ∃ (k : Nat), k ≤ l.length ∧ v12 = .int .i64 k ∧ (l.take k).find? (covers y) = none ∧ Kp w wr) (fun v12 _ => l.length - (intOf v12).toNat)
  case atStart => exact ⟨0, Nat.zero_le _, rfl, by simp, (by (repeat (first | with_reducible assumption | with_reducible exact Kp.refl _ | with_reducible refine Kp.drew ?_ | with_reducible refine Kp.drewN ?_ _ | with_reducible refine Kp.alloc ?_ _ | ((with_reducible refine Kp.setCell ?_ ?_ _); rotate_left; (focus (first | omega | (simp; done) | (simp; omega)))) | with_reducible refine Kp.trans ?_ (by assumption))))⟩
  case round =>
    obtain ⟨k, hk, rfl, hf, xk⟩ := hrel
    by_cases hlt : k < l.length
    · obtain ⟨p, hp⟩ : ∃ x, l[k]? = some x := ⟨l[k]'hlt, List.getElem?_eq_getElem _⟩
      obtain ⟨ga, oa, rfl, r1⟩ := HL.out.low (xk.ck) (by omega)
      have C := Lib.hid (feet_any p)
      have HIT := Lib.hid (fun h => find_hit hf hp (c := covers y) h)
      have NXT := Lib.hid (fun h => find_next hf hp (c := covers y) h)
      have hcv : covers y p = (decide (heldI p.y ≤ y) && decide (y < heldI p.y + heldI p.h)) := rfl
      obtain ⟨p0, p1, p2, p3, p4⟩ := p
      have d0 := r1 k _ hp 0 _ rfl
      have d1 := r1 k _ hp 1 _ rfl
      have d2 := r1 k _ hp 2 _ rfl
      have d3 := r1 k _ hp 3 _ rfl
      have d4 := r1 k _ hp 4 _ rfl
      simp only [Nat.add_zero] at d0 d1 d2 d3 d4 hcv
      simp only at C
      obtain ⟨Y, hY⟩ : ∃ Y, heldI p3 = Y := ⟨_, rfl⟩
      obtain ⟨H, hH⟩ : ∃ H, Y + heldI p4 = H := ⟨_, rfl⟩
      rw [hY, hH] at C hcv
      have HCV := Lib.hid hcv
      have j1 : decide ((k : Int) < (l.length : Int)) = true := decide_eq_true (by omega)
      clear r1 hp hf hcv hY hH
      by_cases c1 : Y ≤ y
      · have j2 : decide (Y ≤ y) = true := decide_eq_true c1
        by_cases c2 : y < H
        · have j3 : decide (y < H) = true := decide_eq_true c2
          have hs : signB l y = symB p0 := by
            unfold signB
            rw [HIT.out (by rw [HCV.out, j2, j3]; rfl)]; rfl
          have HSG := Lib.hid hs
          clear hs c1 c2
          by_cases q1 : p0 = 1
          · subst q1
            have hsy : ((signB l y).toNat : Int) = 35 := by rw [HSG.out]; rfl
            have HSY := Lib.hid hsy
            have jk : knownB 1 = true := rfl
            clear hsy
            go_wp2_with fail
            refine (C.out _).mono ?_
            rintro e w1 ⟨rfl, k1⟩
            have bq : Blk w1 wr.heap.size [.int .i64 1, .int .i64 p1, .int .i64 p2, .int .i64 p3, .int .i64 p4] 30 := Blk.kp (by (repeat (first | with_reducible assumption | ((with_reducible refine Blk.newL ?_ ?_); (focus (first | (simp; done) | omega)); rfl) | with_reducible refine Blk.drew ?_ | with_reducible refine Blk.drewN ?_ _ | with_reducible refine Blk.alloc ?_ _ | ((with_reducible refine Blk.other ?_ ?_ _); rotate_left; (focus (first | with_reducible assumption | omega | (simp; done) | (simp; omega))))))) k1
            have c0 := bq.cell 0 rfl
            have kw1 : Kp w w1 := Kp.trans (by (repeat (first | with_reducible assumption | with_reducible exact Kp.refl _ | with_reducible refine Kp.drew ?_ | with_reducible refine Kp.drewN ?_ _ | with_reducible refine Kp.alloc ?_ _ | ((with_reducible refine Kp.setCell ?_ ?_ _); rotate_left; (focus (first | omega | (simp; done) | (simp; omega)))) | with_reducible refine Kp.trans ?_ (by assumption)))) k1
            clear k1 bq
            have sg := (HE.out.kp kw1).sign 1 rfl
            go_wp2_with fail
            refine (known_any _ _).mono ?_
            rintro e w2 ⟨rfl, rfl⟩
            go_wp2_with fail
            (try go_ret)
            exact ⟨by rw [HSY.out]; rfl, kw1⟩
          by_cases q2 : p0 = 2
          · subst q2
            have hsy : ((signB l y).toNat : Int) = 70 := by rw [HSG.out]; rfl
            have HSY := Lib.hid hsy
            have jk : knownB 2 = true := rfl
            clear hsy
            go_wp2_with fail
            refine (C.out _).mono ?_
            rintro e w1 ⟨rfl, k1⟩
            have bq : Blk w1 wr.heap.size [.int .i64 2, .int .i64 p1, .int .i64 p2, .int .i64 p3, .int .i64 p4] 30 := Blk.kp (by (repeat (first | with_reducible assumption | ((with_reducible refine Blk.newL ?_ ?_); (focus (first | (simp; done) | omega)); rfl) | with_reducible refine Blk.drew ?_ | with_reducible refine Blk.drewN ?_ _ | with_reducible refine Blk.alloc ?_ _ | ((with_reducible refine Blk.other ?_ ?_ _); rotate_left; (focus (first | with_reducible assumption | omega | (simp; done) | (simp; omega))))))) k1
            have c0 := bq.cell 0 rfl
            have kw1 : Kp w w1 := Kp.trans (by (repeat (first | with_reducible assumption | with_reducible exact Kp.refl _ | with_reducible refine Kp.drew ?_ | with_reducible refine Kp.drewN ?_ _ | with_reducible refine Kp.alloc ?_ _ | ((with_reducible refine Kp.setCell ?_ ?_ _); rotate_left; (focus (first | omega | (simp; done) | (simp; omega)))) | with_reducible refine Kp.trans ?_ (by assumption)))) k1
            clear k1 bq
            have sg := (HE.out.kp kw1).sign 2 rfl
            go_wp2_with fail
            refine (known_any _ _).mono ?_
            rintro e w2 ⟨rfl, rfl⟩
            go_wp2_with fail
            (try go_ret)
            exact ⟨by rw [HSY.out]; rfl, kw1⟩
          by_cases q3 : p0 = 3
          · subst q3
            have hsy : ((signB l y).toNat : Int) = 45 := by rw [HSG.out]; rfl
            have HSY := Lib.hid hsy
            have jk : knownB 3 = true := rfl
            clear hsy
            go_wp2_with fail
            refine (C.out _).mono ?_
            rintro e w1 ⟨rfl, k1⟩
            have bq : Blk w1 wr.heap.size [.int .i64 3, .int .i64 p1, .int .i64 p2, .int .i64 p3, .int .i64 p4] 30 := Blk.kp (by (repeat (first | with_reducible assumption | ((with_reducible refine Blk.newL ?_ ?_); (focus (first | (simp; done) | omega)); rfl) | with_reducible refine Blk.drew ?_ | with_reducible refine Blk.drewN ?_ _ | with_reducible refine Blk.alloc ?_ _ | ((with_reducible refine Blk.other ?_ ?_ _); rotate_left; (focus (first | with_reducible assumption | omega | (simp; done) | (simp; omega))))))) k1
            have c0 := bq.cell 0 rfl
            have kw1 : Kp w w1 := Kp.trans (by (repeat (first | with_reducible assumption | with_reducible exact Kp.refl _ | with_reducible refine Kp.drew ?_ | with_reducible refine Kp.drewN ?_ _ | with_reducible refine Kp.alloc ?_ _ | ((with_reducible refine Kp.setCell ?_ ?_ _); rotate_left; (focus (first | omega | (simp; done) | (simp; omega)))) | with_reducible refine Kp.trans ?_ (by assumption)))) k1
            clear k1 bq
            have sg := (HE.out.kp kw1).sign 3 rfl
            go_wp2_with fail
            refine (known_any _ _).mono ?_
            rintro e w2 ⟨rfl, rfl⟩
            go_wp2_with fail
            (try go_ret)
            exact ⟨by rw [HSY.out]; rfl, kw1⟩
          by_cases q4 : p0 = 4
          · subst q4
            have hsy : ((signB l y).toNat : Int) = 110 := by rw [HSG.out]; rfl
            have HSY := Lib.hid hsy
            have jk : knownB 4 = true := rfl
            clear hsy
            go_wp2_with fail
            refine (C.out _).mono ?_
            rintro e w1 ⟨rfl, k1⟩
            have bq : Blk w1 wr.heap.size [.int .i64 4, .int .i64 p1, .int .i64 p2, .int .i64 p3, .int .i64 p4] 30 := Blk.kp (by (repeat (first | with_reducible assumption | ((with_reducible refine Blk.newL ?_ ?_); (focus (first | (simp; done) | omega)); rfl) | with_reducible refine Blk.drew ?_ | with_reducible refine Blk.drewN ?_ _ | with_reducible refine Blk.alloc ?_ _ | ((with_reducible refine Blk.other ?_ ?_ _); rotate_left; (focus (first | with_reducible assumption | omega | (simp; done) | (simp; omega))))))) k1
            have c0 := bq.cell 0 rfl
            have kw1 : Kp w w1 := Kp.trans (by (repeat (first | with_reducible assumption | with_reducible exact Kp.refl _ | with_reducible refine Kp.drew ?_ | with_reducible refine Kp.drewN ?_ _ | with_reducible refine Kp.alloc ?_ _ | ((with_reducible refine Kp.setCell ?_ ?_ _); rotate_left; (focus (first | omega | (simp; done) | (simp; omega)))) | with_reducible refine Kp.trans ?_ (by assumption)))) k1
            clear k1 bq
            have sg := (HE.out.kp kw1).sign 4 rfl
            go_wp2_with fail
            refine (known_any _ _).mono ?_
            rintro e w2 ⟨rfl, rfl⟩
            go_wp2_with fail
            (try go_ret)
            exact ⟨by rw [HSY.out]; rfl, kw1⟩
          have hsy : ((signB l y).toNat : Int) = 63 := by rw [HSG.out]; unfold symB; rw [if_neg q1, if_neg q2, if_neg q3, if_neg q4]; rfl
          have HSY := Lib.hid hsy
          have jk : knownB p0 = false := by
            unfold knownB
            by_cases c : 1 ≤ p0
            · have c2 : ¬ p0 ≤ 4 := by omega
              simp [c2]
            · simp [c]
          clear hsy q1 q2 q3 q4
          go_wp2_with fail
          refine (C.out _).mono ?_
          rintro e w1 ⟨rfl, k1⟩
          have bq : Blk w1 wr.heap.size [.int .i64 p0, .int .i64 p1, .int .i64 p2, .int .i64 p3, .int .i64 p4] 30 := Blk.kp (by (repeat (first | with_reducible assumption | ((with_reducible refine Blk.newL ?_ ?_); (focus (first | (simp; done) | omega)); rfl) | with_reducible refine Blk.drew ?_ | with_reducible refine Blk.drewN ?_ _ | with_reducible refine Blk.alloc ?_ _ | ((with_reducible refine Blk.other ?_ ?_ _); rotate_left; (focus (first | with_reducible assumption | omega | (simp; done) | (simp; omega))))))) k1
          have c0 := bq.cell 0 rfl
          have kw1 : Kp w w1 := Kp.trans (by (repeat (first | with_reducible assumption | with_reducible exact Kp.refl _ | with_reducible refine Kp.drew ?_ | with_reducible refine Kp.drewN ?_ _ | with_reducible refine Kp.alloc ?_ _ | ((with_reducible refine Kp.setCell ?_ ?_ _); rotate_left; (focus (first | omega | (simp; done) | (simp; omega)))) | with_reducible refine Kp.trans ?_ (by assumption)))) k1
          clear k1 bq
          go_wp2_with fail
          refine (known_any _ _).mono ?_
          rintro e w2 ⟨rfl, rfl⟩
          go_wp2_with fail
          (try go_ret)
          exact ⟨by rw [HSY.out]; rfl, kw1⟩
        · have j3 : decide (y < H) = false := decide_eq_false c2
          have nx := NXT.out (by rw [HCV.out, j2, j3]; rfl)
          have NX := Lib.hid nx
          clear nx c1 c2
          go_wp2_with fail
          refine (C.out _).mono ?_
          rintro e w1 ⟨rfl, k1⟩
          have bq : Blk w1 wr.heap.size [.int .i64 p0, .int .i64 p1, .int .i64 p2, .int .i64 p3, .int .i64 p4] 30 := Blk.kp (by (repeat (first | with_reducible assumption | ((with_reducible refine Blk.newL ?_ ?_); (focus (first | (simp; done) | omega)); rfl) | with_reducible refine Blk.drew ?_ | with_reducible refine Blk.drewN ?_ _ | with_reducible refine Blk.alloc ?_ _ | ((with_reducible refine Blk.other ?_ ?_ _); rotate_left; (focus (first | with_reducible assumption | omega | (simp; done) | (simp; omega))))))) k1
          have c0 := bq.cell 0 rfl
          have kw1 : Kp w w1 := Kp.trans (by (repeat (first | with_reducible assumption | with_reducible exact Kp.refl _ | with_reducible refine Kp.drew ?_ | with_reducible refine Kp.drewN ?_ _ | with_reducible refine Kp.alloc ?_ _ | ((with_reducible refine Kp.setCell ?_ ?_ _); rotate_left; (focus (first | omega | (simp; done) | (simp; omega)))) | with_reducible refine Kp.trans ?_ (by assumption)))) k1
          clear k1 bq
          go_wp2_with fail
          go_roundw
          case rel => exact ⟨k + 1, by omega, by go_num, NX.out, kw1⟩
          case measure => simp [intOf]; omega
      · have j2 : decide (Y ≤ y) = false := decide_eq_false c1
        have nx := NXT.out (by rw [HCV.out, j2]; rfl)
        have NX := Lib.hid nx
        clear nx c1
        go_wp2_with fail
        refine (C.out _).mono ?_
        rintro e w1 ⟨rfl, k1⟩
        have bq : Blk w1 wr.heap.size [.int .i64 p0, .int .i64 p1, .int .i64 p2, .int .i64 p3, .int .i64 p4] 30 := Blk.kp (by (repeat (first | with_reducible assumption | ((with_reducible refine Blk.newL ?_ ?_); (focus (first | (simp; done) | omega)); rfl) | with_reducible refine Blk.drew ?_ | with_reducible refine Blk.drewN ?_ _ | with_reducible refine Blk.alloc ?_ _ | ((with_reducible refine Blk.other ?_ ?_ _); rotate_left; (focus (first | with_reducible assumption | omega | (simp; done) | (simp; omega))))))) k1
        have c0 := bq.cell 0 rfl
        have kw1 : Kp w w1 := Kp.trans (by (repeat (first | with_reducible assumption | with_reducible exact Kp.refl _ | with_reducible refine Kp.drew ?_ | with_reducible refine Kp.drewN ?_ _ | with_reducible refine Kp.alloc ?_ _ | ((with_reducible refine Kp.setCell ?_ ?_ _); rotate_left; (focus (first | omega | (simp; done) | (simp; omega)))) | with_reducible refine Kp.trans ?_ (by assumption)))) k1
        clear k1 bq
        go_wp2_with fail
        go_roundw
        case rel => exact ⟨k + 1, by omega, by go_num, NX.out, kw1⟩
        case measure => simp [intOf]; omega
    · obtain rfl : k = l.length := by omega
      have j1 : decide ((l.length : Int) < (l.length : Int)) = false := decide_eq_false (by omega)
      rw [List.take_length] at hf
      have hs : ((signB l y).toNat : Int) = 46 := by unfold signB; rw [hf]; rfl
      have HSY := Lib.hid hs
      clear hs hf
      go_wp2_with fail
      (try go_ret)
      exact ⟨by rw [HSY.out]; rfl, xk⟩
end Go.Proofs.YtfiejiokconobaaDoor
