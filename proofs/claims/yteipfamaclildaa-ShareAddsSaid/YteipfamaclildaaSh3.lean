/- The law ShareAdds: the walk. -/
import Derived.Test.YteipfamaclildaaSh2

namespace Go.Proofs.Yteipfamaclildaa

open Go.ChangeShapes Go.WideShapes Go.ChangeAt Go.RowKit

/-- Each share is what it should be, rounded down or up. -/
theorem share_fair {whole : Int} {l : List Int} (hs : shOk whole l = true) (hw : whole ≤ 9223372036854775807) {k : Nat} {x : Int} (hx : l[k]? = some x) :
    ∃ F : Int, ratio whole x l.sum = some F ∧ 0 ≤ F ∧ F ≤ whole ∧ F ≤ shareAt whole l k ∧ shareAt whole l k - F ≤ 1 ∧ (x = 0 → shareAt whole l k = 0) := by
  obtain ⟨h0, h1, h2, h3⟩ := shOk_iff.1 hs
  have hx0 := h1 x (List.mem_of_getElem? hx)
  have hsu := sum_succ hx
  have ht1 := sum_take h1 (k + 1)
  have ht0 := sum_take h1 k
  have hxs : x ≤ l.sum := by omega
  have hF0 : 0 ≤ whole * x / l.sum := Int.ediv_nonneg (Int.mul_nonneg h0 hx0) (by omega)
  have hF1 : whole * x / l.sum ≤ whole := Int.ediv_le_of_le_mul h3 (Int.mul_le_mul_of_nonneg_left hxs h0)
  refine ⟨whole * x / l.sum, ?_, hF0, hF1, ?_, ?_, ?_⟩
  · unfold ratio
    rw [if_neg (by omega), if_pos (Int.le_trans hF1 hw)]
  all_goals unfold shareAt upAt
  · rw [hsu, Int.mul_add]
    obtain ⟨a, ha⟩ : ∃ a, whole * (l.take k).sum = a := ⟨_, rfl⟩
    obtain ⟨b, hb⟩ : ∃ a, whole * x = a := ⟨_, rfl⟩
    obtain ⟨A, hA⟩ : ∃ a, l.sum = a := ⟨_, rfl⟩
    rw [ha, hb, hA]
    rw [hA] at h3
    have e1 := Int.ediv_mul_le a (show A ≠ 0 by omega)
    have e2 := Int.ediv_mul_le b (show A ≠ 0 by omega)
    have : a / A + b / A ≤ (a + b) / A := by
      rw [Int.le_ediv_iff_mul_le h3, Int.add_mul]; omega
    omega
  · rw [hsu, Int.mul_add]
    obtain ⟨a, ha⟩ : ∃ a, whole * (l.take k).sum = a := ⟨_, rfl⟩
    obtain ⟨b, hb⟩ : ∃ a, whole * x = a := ⟨_, rfl⟩
    obtain ⟨A, hA⟩ : ∃ a, l.sum = a := ⟨_, rfl⟩
    rw [ha, hb, hA]
    rw [hA] at h3
    have e1 := Int.lt_ediv_add_one_mul_self a h3
    have e2 := Int.lt_ediv_add_one_mul_self b h3
    have : (a + b) / A < a / A + b / A + 2 := by
      rw [Int.ediv_lt_iff_lt_mul h3]
      have e3 : (a / A + b / A + 2) * A = (a / A + 1) * A + (b / A + 1) * A := by
        rw [← Int.add_mul]; congr 1; omega
      omega
    omega
  · intro e
    rw [hsu, e, Int.add_zero, Int.sub_self]

set_option maxRecDepth 100000 in
set_option maxHeartbeats 4000000 in
theorem shareAdds_any (whole : Int) (P : SlV Int) (w : World) (hwb : -9223372036854775808 ≤ whole ∧ whole ≤ 9223372036854775807) (hP : SlOk w 1 enc1 P.a P.len P.cap P.l ∧ ∀ y, y ∈ P.l → I64 y) :
    Calls Try.prog 6 #[.int .i64 whole, P.v] w fun e w' => e = .returned (.bool true) ∧ Kp w w' := by
  obtain ⟨a, len, cap, l⟩ := P
  obtain ⟨hl, hok⟩ := hP
  simp only [SlV.v] at *
  by_cases h40 : 40 < len
  · have j : decide ((40 : Int) < len) = true := decide_eq_true (by omega)
    clear hl hok hwb
    go_enter Try.func6, Try.ntmps6
    go_wp2_with (go_at_call 24; go_must (refine (shareAwake_any _).mono ?_); rintro e w5 ⟨rfl, kk⟩)
    go_ret
    exact ⟨rfl, (by (repeat (first | with_reducible assumption | with_reducible exact Kp.refl _ | with_reducible refine Kp.drew ?_ | with_reducible refine Kp.drewN ?_ _ | with_reducible refine Kp.alloc ?_ _ | ((with_reducible refine Kp.setCell ?_ ?_ _); rotate_left; (focus (first | omega | (simp; done) | (simp; omega)))) | with_reducible refine Kp.trans ?_ (by assumption))))⟩
  have j40 : decide ((40 : Int) < len) = false := decide_eq_false (by omega)
  cases hs : shOk whole l with
  | false =>
    have cA := shareAll_no whole a len cap l w hl hok hs
    clear hl hok hwb hs
    go_enter Try.func6, Try.ntmps6
    go_wp2_with (first
      | (go_at_call 25; go_must (refine cA.mono ?_); rintro e w5 ⟨rfl, kk⟩)
      | (go_at_call 24; go_must (refine (shareAwake_any _).mono ?_); rintro e w6 ⟨rfl, kk2⟩))
    go_ret
    exact ⟨ret_bool (by first | rfl | simp), (by (repeat (first | with_reducible assumption | with_reducible exact Kp.refl _ | with_reducible refine Kp.drew ?_ | with_reducible refine Kp.drewN ?_ _ | with_reducible refine Kp.alloc ?_ _ | ((with_reducible refine Kp.setCell ?_ ?_ _); rotate_left; (focus (first | omega | (simp; done) | (simp; omega)))) | with_reducible refine Kp.trans ?_ (by assumption))))⟩
  | true =>
    have hll := hl.1
    have cA := shareAll_any whole a len cap l w hwb hl hok (by omega) hs
    have cS := fun (w' : World) (k : Kp w w') => refSpSum_any a len cap l w' (hl.kp k) hok
    have hra := runs_take hs l.length
    rw [List.take_length] at hra
    rw [hra] at cS
    have hLp : ∀ x ∈ shares whole l, 0 ≤ x ∧ x ≤ whole := by
      intro x hx
      obtain ⟨j, _, rfl⟩ := List.mem_map.1 hx
      exact shareAt_in hs hwb.2 j
    have hLs := shares_sum (whole := whole) (l := l) l.length (Nat.le_refl _)
    rw [List.take_of_length_le (by rw [shares_length]; exact Nat.le_refl _), upAt_all hs] at hLs
    have hrL := runs_pos (shares whole l) 0 (by decide) (by decide) (fun x hx => (hLp x hx).1)
    rw [hLs, Int.zero_add, if_pos hwb.2] at hrL
    have hLl := shares_length whole l
    have hLg := fun k (h : k < l.length) => shares_get (whole := whole) (l := l) h
    obtain ⟨L, hL⟩ : ∃ L, shares whole l = L := ⟨_, rfl⟩
    rw [hL] at cA hLp hrL hLl hLg
    simp only [Option.getD_some, Option.isSome_some] at cS
    have hfair := fun (k : Nat) (x : Int) (hx : l[k]? = some x) => share_fair hs hwb.2 hx
    obtain ⟨_, _, hsm, hsp⟩ := shOk_iff.1 hs
    obtain ⟨A, hA⟩ : ∃ A, l.sum = A := ⟨_, rfl⟩
    rw [hA] at cS hfair hsm hsp
    have hcap := hl.2.1
    have hmx := hl.2.2.1
    unfold maxLen at hmx
    have CS := Lib.hid cS
    have HLP := Lib.hid hLp
    have HRL := Lib.hid hrL
    have HLL := Lib.hid hLl
    have HLG := Lib.hid hLg
    have HF := Lib.hid hfair
    have HL := Lib.hid hl
    have HOK := Lib.hid hok
    have HLn := Lib.hid hll
    clear cS hLp hrL hLl hLg hfair hl hok hs hra hLs hL hA hll
    go_enter Try.func6, Try.ntmps6
    go_wp2_with fail
    refine cA.mono ?_
    rintro e w1 ⟨v, rfl, hr, k1⟩
    obtain ⟨aL, cL, rfl, sL⟩ := hr.sl (fun _ => rfl)
    rw [HLL.out, HLn.out] at sL ⊢
    clear cA hr
    go_wp2_with fail
    refine (CS.out _ k1).mono ?_
    rintro e w2 ⟨rfl, k2⟩
    have cL2 := refSpSum_any aL len cL L w2 (sL.kp k2) (fun x hx => by have := HLP.out x hx; exact ⟨by omega, by omega⟩)
    rw [HRL.out] at cL2
    simp only [Option.getD_some, Option.isSome_some] at cL2
    go_wp2_with fail
    refine cL2.mono ?_
    rintro e w3 ⟨rfl, k3⟩
    have kw3 := (k1.trans k2).trans k3
    have sL3 := (sL.kp k2).kp k3
    have hcL := sL.2.1
    have hmL := sL.2.2.1
    unfold maxLen at hmL
    clear cL2 CS sL k1 k2 k3
    go_wp2
    refine named_world (F := fun W => Blk W w3.heap.size (met A true) 53 ∧ Kp w3 W) ⟨(by (repeat (first | with_reducible assumption | ((with_reducible refine Blk.newL ?_ ?_); (focus (first | (simp; done) | omega)); rfl) | with_reducible refine Blk.drew ?_ | with_reducible refine Blk.drewN ?_ _ | with_reducible refine Blk.alloc ?_ _ | ((with_reducible refine Blk.other ?_ ?_ _); rotate_left; (focus (first | with_reducible assumption | omega | (simp; done) | (simp; omega))))))), (by (repeat (first | with_reducible assumption | with_reducible exact Kp.refl _ | with_reducible refine Kp.drew ?_ | with_reducible refine Kp.drewN ?_ _ | with_reducible refine Kp.alloc ?_ _ | ((with_reducible refine Kp.setCell ?_ ?_ _); rotate_left; (focus (first | omega | (simp; done) | (simp; omega)))) | with_reducible refine Kp.trans ?_ (by assumption))))⟩ ?_
    rintro w4 ⟨y7, k4⟩
    have kw4 := kw3.trans k4
    have sL4 := sL3.kp k4
    have SL := Lib.hid sL4
    have c7 := y7.cell 0 rfl
    have n7 := y7.lt
    clear kw3 sL3 k4 sL4
    go_loopw [9] (fun v9 wr => ∃ k : Nat, k ≤ len ∧ v9 = .int .i64 k ∧ Kp w4 wr) (fun v9 _ => len - (intOf v9).toNat)
    case atStart => exact ⟨0, Nat.zero_le _, rfl, Kp.refl _⟩
    case round =>
      obtain ⟨k, hk, rfl, xk⟩ := hrel
      by_cases hlt : k < len
      · have hln := HLn.out
        obtain ⟨x, hx⟩ : ∃ x, l[k]? = some x := ⟨l[k]'(by omega), List.getElem?_eq_getElem _⟩
        have hs2 := HLG.out k (by omega)
        obtain ⟨F, hF, f0, f1, f2, f3, f4⟩ := HF.out k x hx
        obtain ⟨s, hsv⟩ : ∃ s, shareAt whole l k = s := ⟨_, rfl⟩
        rw [hsv] at hs2 f2 f3 f4
        have hsb := HLP.out s (List.mem_of_getElem? hs2)
        have cR := fun w => refRatio_any whole x A w hwb (HOK.out x (List.mem_of_getElem? hx)) ⟨by omega, hsm⟩
        rw [hF] at cR
        simp only [Option.getD_some, Option.isSome_some] at cR
        have CR := Lib.hid cR
        have hP := HL.out.kp (kw4.trans xk)
        have hL2 := SL.out.kp xk
        have b7 := (xk.cell (p := ⟨w3.heap.size, 0, none⟩) n7).trans c7
        have n7r : w3.heap.size < wr.heap.size := Nat.lt_of_lt_of_le n7 xk.size
        rcases hP.2.2.2 with e | ⟨b, off, rfl, hb, hrow⟩
        · rw [e] at hx; simp at hx
        · rcases hL2.2.2.2 with e | ⟨b', off', rfl, hb', hrow'⟩
          · rw [e] at hs2; simp at hs2
          · have c0 := hrow k _ hx 0 _ rfl
            have d0 := hrow' k _ hs2 0 _ rfl
            rw [Nat.add_zero, Nat.mul_one] at c0 d0
            have F4 := Lib.hid f4
            clear hrow hrow' hx hs2 hln hsv cR hF hP hL2 f4
            go_wp2
            go_cut [10] (fun v10 wd => ∃ q, v10 = .pointer (some ⟨q, 0, none⟩) ∧ Blk wd q [.int .i64 F, .bool true] 55 ∧ Kp wr wd)
            case first =>
              (refine wp_region_held_drew (S := (fun w' => (∀ b o, b < wr.heap.size → w'.cell? ⟨b, o, none⟩ = wr.cell? ⟨b, o, none⟩) ∧ Kp wr w')) (by kernel_rfl) ?_ (fun hHd => ?_); (focus ((try dsimp only); (first | with_reducible assumption | with_reducible exact held_start _ | with_reducible exact held_next (by assumption) (by assumption) | with_reducible exact held_alloc (by assumption) _ | with_reducible exact held_drew (by assumption) | ((with_reducible refine held_kp ?_); (repeat (first | with_reducible assumption | with_reducible exact Kp.refl _ | with_reducible refine Kp.drew ?_ | with_reducible refine Kp.drewN ?_ _ | with_reducible refine Kp.alloc ?_ _ | ((with_reducible refine Kp.setCell ?_ ?_ _); rotate_left; (focus (first | omega | (simp; done) | (simp; omega)))) | with_reducible refine Kp.trans ?_ (by assumption))))))))
              (refine takeH (i := 0) (oi := ?o1) (v := ?v1) ?h1 (by kernel_rfl) ?q1 (Or.inl ⟨?w1, ?y1⟩) (by assumption) ?r1; (case h1 => ((simp only [g1, g3]); rfl)); (case q1 => exact fun _ _ _ h => h); (case w1 => rfl); (case y1 => (intro w' hSw; (try dsimp only at hSw); go_simp; (try with_reducible rfl))); (try simp only [Act.put, s1, s2, s3]))
              (refine takeH (i := 1) (oi := ?o2) (v := ?v2) ?h2 (by kernel_rfl) ?q2 (Or.inl ⟨?w2, ?y2⟩) (by assumption) ?r2; (case h2 => ((simp only [g1, g2, g3]); rfl)); (case q2 => exact fun _ _ _ h => h); (case w2 => rfl); (case y2 => (intro w' hSw; (try dsimp only at hSw); go_simp; (try with_reducible rfl))); (try simp only [Act.put, s1, s2, s3]))
              (refine takeH (i := 2) (oi := ?o3) (v := ?v3) ?h3 (by kernel_rfl) ?q3 (Or.inl ⟨?w3, ?y3⟩) (by assumption) ?r3; (case h3 => ((simp only [g1, g2, g3]); rfl)); (case q3 => exact fun _ _ _ h => h); (case w3 => rfl); (case y3 => (intro w' hSw; (try dsimp only at hSw); go_simp; (try with_reducible rfl))); (try simp only [Act.put, s1, s2, s3]))
              (refine takeH (i := 3) (oi := ?o4) (v := ?v4) ?h4 (by kernel_rfl) ?q4 (Or.inl ⟨?w4, ?y4⟩) (by assumption) ?r4; (case h4 => ((simp only [g1, g2, g3]); rfl)); (case q4 => exact fun _ _ _ h => h); (case w4 => rfl); (case y4 => (intro w' hSw; (try dsimp only at hSw); go_simp; (try with_reducible rfl))); (try simp only [Act.put, s1, s2, s3]))
              (refine takeH (i := 4) (oi := ?o5) (v := ?v5) ?h5 (by kernel_rfl) ?q5 (Or.inl ⟨?w5, ?y5⟩) (by assumption) ?r5; (case h5 => ((simp only [g1, g2, g3]); rfl)); (case q5 => exact fun _ _ _ h => h); (case w5 => rfl); (case y5 => (intro w' hSw; (try dsimp only at hSw); go_simp; (try with_reducible rfl))); (try simp only [Act.put, s1, s2, s3]))
              (refine takeH (i := 5) (oi := ?o6) (v := ?v6) ?h6 (by kernel_rfl) ?q6 (Or.inl ⟨?w6, ?y6⟩) (by assumption) ?r6; (case h6 => ((simp only [g1, g2, g3]); rfl)); (case q6 => exact fun _ _ _ h => h); (case w6 => rfl); (case y6 => (intro w' hSw; (try dsimp only at hSw); go_simp; (try with_reducible rfl))); (try simp only [Act.put, s1, s2, s3]))
              (refine takeH (i := 6) (oi := ?o7) (v := ?v7) ?h7 (by kernel_rfl) ?q7 (Or.inl ⟨?w7, ?y7⟩) (by assumption) ?r7; (case h7 => ((simp only [g1, g2, g3]); rfl)); (case q7 => exact fun _ _ _ h => h); (case w7 => rfl); (case y7 => (intro w' hSw; (try dsimp only at hSw); go_simp; (try with_reducible rfl))); (try simp only [Act.put, s1, s2, s3]))
              (refine wpAnyH_ready (rs := [7, 8]) (by kernel_rfl) (by simp) ?_; refine (AllReadyH.cons (o := ?o8) ?h8 (fun K hK => ?s8) (AllReadyH.cons (o := ?o9) ?h9 (fun K hK => ?s9) AllReadyH.nil)); (case h8 => (first | ((simp only [g1, g2, g3]); rfl) | rfl)); (case h9 => (first | ((simp only [g1, g2, g3]); rfl) | rfl)))
              (go_simp; (first | (go_at_call 27; go_must (refine (CR.out _).mono ?_); rintro e w5 ⟨rfl, kk⟩; have ksz := (hHd.2.trans kk).size; (try (have zb := Blk.kp (by first | with_reducible assumption | exact Blk.new _ _ _ | exact (Blk.new _ _ _).drew) kk; have zc0 := zb.cell 0 rfl; have zc1 := zb.cell 1 rfl; have zf0 := zb.free 0; have zf1 := zb.free 1)))); (try dsimp only); refine hK.out _ _ ?_ (fun hHd => ?_); (focus ((try dsimp only); (first | with_reducible assumption | with_reducible exact held_next (by assumption) (by assumption) | with_reducible exact held_alloc (by assumption) _))); clear hK K; (try simp only [Act.put, s1, s2, s3]))
              (refine wpAnyH_ready (rs := [8]) (by kernel_rfl) (by simp) ?_; refine AllReadyH.cons (o := ?o10) ?h10 (fun K hK => ?s10) AllReadyH.nil; (case h10 => (first | ((simp only [g1, g2, g3]); rfl) | rfl)); go_simp; (try dsimp only); refine hK.out _ _ ?_ (fun hHd => ?_); (focus ((try dsimp only); (first | with_reducible assumption | with_reducible exact held_start _ | with_reducible exact held_next (by assumption) (by assumption) | with_reducible exact held_alloc (by assumption) _ | with_reducible exact held_drew (by assumption) | ((with_reducible refine held_kp ?_); (repeat (first | with_reducible assumption | with_reducible exact Kp.refl _ | with_reducible refine Kp.drew ?_ | with_reducible refine Kp.drewN ?_ _ | with_reducible refine Kp.alloc ?_ _ | ((with_reducible refine Kp.setCell ?_ ?_ _); rotate_left; (focus (first | omega | (simp; done) | (simp; omega)))) | with_reducible refine Kp.trans ?_ (by assumption))))))); clear hK K; (try simp only [Act.put, s1, s2, s3]))
              (refine wpAnyH_ready (rs := [9]) (by kernel_rfl) (by simp) ?_; refine AllReadyH.cons (o := ?o11) ?h11 (fun K hK => ?s11) AllReadyH.nil; (case h11 => (first | ((simp only [g1, g2, g3]); rfl) | rfl)); go_simp; (try dsimp only); refine hK.out _ _ ?_ (fun hHd => ?_); (focus ((try dsimp only); (first | with_reducible assumption | with_reducible exact held_start _ | with_reducible exact held_next (by assumption) (by assumption) | with_reducible exact held_alloc (by assumption) _ | with_reducible exact held_drew (by assumption) | ((with_reducible refine held_kp ?_); (repeat (first | with_reducible assumption | with_reducible exact Kp.refl _ | with_reducible refine Kp.drew ?_ | with_reducible refine Kp.drewN ?_ _ | with_reducible refine Kp.alloc ?_ _ | ((with_reducible refine Kp.setCell ?_ ?_ _); rotate_left; (focus (first | omega | (simp; done) | (simp; omega)))) | with_reducible refine Kp.trans ?_ (by assumption))))))); clear hK K; (try simp only [Act.put, s1, s2, s3]))
              refine wpAnyH_done (by kernel_rfl) ?_ _
              rotate_left
              (go_simp; (try dsimp only); refine hK.out _ _ ?_ (fun hHd => ?_); (focus ((try dsimp only); (first | with_reducible assumption | with_reducible exact held_start _ | with_reducible exact held_next (by assumption) (by assumption) | with_reducible exact held_alloc (by assumption) _ | with_reducible exact held_drew (by assumption) | ((with_reducible refine held_kp ?_); (repeat (first | with_reducible assumption | with_reducible exact Kp.refl _ | with_reducible refine Kp.drew ?_ | with_reducible refine Kp.drewN ?_ _ | with_reducible refine Kp.alloc ?_ _ | ((with_reducible refine Kp.setCell ?_ ?_ _); rotate_left; (focus (first | omega | (simp; done) | (simp; omega)))) | with_reducible refine Kp.trans ?_ (by assumption))))))); clear hK K; (try simp only [Act.put, s1, s2, s3]))
              (refine wpAnyH_ready (rs := [7]) (by kernel_rfl) (by simp) ?_; refine AllReadyH.cons (o := ?o12) ?h12 (fun K hK => ?s12) AllReadyH.nil; (case h12 => (first | ((simp only [g1, g2, g3]); rfl) | rfl)); go_simp; (first | (go_at_call 27; go_must (refine (CR.out _).mono ?_); rintro e w5 ⟨rfl, kk⟩; have ksz := (hHd.2.trans kk).size; (try (have zb := Blk.kp (by first | with_reducible assumption | exact Blk.new _ _ _ | exact (Blk.new _ _ _).drew) kk; have zc0 := zb.cell 0 rfl; have zc1 := zb.cell 1 rfl; have zf0 := zb.free 0; have zf1 := zb.free 1)))); (try dsimp only); refine hK.out _ _ ?_ (fun hHd => ?_); (focus ((try dsimp only); (first | with_reducible assumption | with_reducible exact held_next (by assumption) (by assumption) | with_reducible exact held_alloc (by assumption) _))); clear hK K; (try simp only [Act.put, s1, s2, s3]))
              (refine wpAnyH_ready (rs := [9]) (by kernel_rfl) (by simp) ?_; refine AllReadyH.cons (o := ?o13) ?h13 (fun K hK => ?s13) AllReadyH.nil; (case h13 => (first | ((simp only [g1, g2, g3]); rfl) | rfl)); go_simp; (try dsimp only); refine hK.out _ _ ?_ (fun hHd => ?_); (focus ((try dsimp only); (first | with_reducible assumption | with_reducible exact held_start _ | with_reducible exact held_next (by assumption) (by assumption) | with_reducible exact held_alloc (by assumption) _ | with_reducible exact held_drew (by assumption) | ((with_reducible refine held_kp ?_); (repeat (first | with_reducible assumption | with_reducible exact Kp.refl _ | with_reducible refine Kp.drew ?_ | with_reducible refine Kp.drewN ?_ _ | with_reducible refine Kp.alloc ?_ _ | ((with_reducible refine Kp.setCell ?_ ?_ _); rotate_left; (focus (first | omega | (simp; done) | (simp; omega)))) | with_reducible refine Kp.trans ?_ (by assumption))))))); clear hK K; (try simp only [Act.put, s1, s2, s3]))
              refine wpAnyH_done (by kernel_rfl) ?_ _
              rotate_left
              all_goals
                have k5 : Kp wr w5 := ((by (repeat (first | with_reducible assumption | with_reducible exact Kp.refl _ | with_reducible refine Kp.drew ?_ | with_reducible refine Kp.drewN ?_ _ | with_reducible refine Kp.alloc ?_ _ | ((with_reducible refine Kp.setCell ?_ ?_ _); rotate_left; (focus (first | omega | (simp; done) | (simp; omega)))) | with_reducible refine Kp.trans ?_ (by assumption)))) : Kp wr _).trans kk
                go_wp2
                go_meet
                case rel =>
                  refine ⟨_, rfl, ?_, (by (repeat (first | with_reducible assumption | with_reducible exact Kp.refl _ | with_reducible refine Kp.drew ?_ | with_reducible refine Kp.drewN ?_ _ | with_reducible refine Kp.alloc ?_ _ | ((with_reducible refine Kp.setCell ?_ ?_ _); rotate_left; (focus (first | omega | (simp; done) | (simp; omega)))) | with_reducible refine Kp.trans ?_ (by assumption))))⟩
                  first
                    | ((with_reducible refine Blk.newL ?_ ?_); (focus (simp; done)); rfl)
                    | exact (zb.set 0 (.int .i64 F)).set 1 (.bool true)
            case rest =>
              obtain ⟨q, rfl, yq, yk⟩ := hcut
              have e0 := (yk.cell (p := ⟨b, off + k, none⟩) hb).trans c0
              have e1 := (yk.cell (p := ⟨b', off' + k, none⟩) hb').trans d0
              clear c0 d0 b7 n7r
              have r0 := yq.cell 0 rfl; have r1 := yq.cell 1 rfl
              have m1 : decide (s < F) = false := decide_eq_false (by omega)
              have m2 : decide (1 < s - F) = false := decide_eq_false (by omega)
              by_cases hx0 : x = 0
              · have hs0 := F4.out hx0
                subst hx0
                subst hs0
                obtain rfl : F = 0 := by omega
                clear F4 m1 m2
                go_wp2
                go_quiet (fail)
                go_wp2
                go_roundw
                case rel => exact ⟨k + 1, by omega, by go_num, (by (repeat (first | with_reducible assumption | with_reducible exact Kp.refl _ | with_reducible refine Kp.drew ?_ | with_reducible refine Kp.drewN ?_ _ | with_reducible refine Kp.alloc ?_ _ | ((with_reducible refine Kp.setCell ?_ ?_ _); rotate_left; (focus (first | omega | (simp; done) | (simp; omega)))) | with_reducible refine Kp.trans ?_ (by assumption))))⟩
                case measure => simp [intOf]; omega
              · have m3 : (x == 0) = false := beq_eq_false_iff_ne.2 hx0
                clear F4 hx0
                go_wp2
                go_quiet (fail)
                go_wp2
                go_roundw
                case rel => exact ⟨k + 1, by omega, by go_num, (by (repeat (first | with_reducible assumption | with_reducible exact Kp.refl _ | with_reducible refine Kp.drew ?_ | with_reducible refine Kp.drewN ?_ _ | with_reducible refine Kp.alloc ?_ _ | ((with_reducible refine Kp.setCell ?_ ?_ _); rotate_left; (focus (first | omega | (simp; done) | (simp; omega)))) | with_reducible refine Kp.trans ?_ (by assumption))))⟩
                case measure => simp [intOf]; omega
      · obtain rfl : k = len := by omega
        have j1 : decide ((k : Int) < (k : Int)) = false := decide_eq_false (by omega)
        go_wp2_with (go_at_call 24; go_must (refine (shareAwake_any _).mono ?_); rintro e w6 ⟨rfl, kk2⟩)
        go_ret
        exact ⟨rfl, (by (repeat (first | with_reducible assumption | with_reducible exact Kp.refl _ | with_reducible refine Kp.drew ?_ | with_reducible refine Kp.drewN ?_ _ | with_reducible refine Kp.alloc ?_ _ | ((with_reducible refine Kp.setCell ?_ ?_ _); rotate_left; (focus (first | omega | (simp; done) | (simp; omega)))) | with_reducible refine Kp.trans ?_ (by assumption))))⟩
end Go.Proofs.Yteipfamaclildaa
