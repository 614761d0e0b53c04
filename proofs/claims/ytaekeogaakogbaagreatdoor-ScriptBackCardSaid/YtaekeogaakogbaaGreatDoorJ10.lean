/- A script's reader: a geometry's line. -/
import Derived.Test.YtaekeogaakogbaaGreatDoorJ9

namespace Go.Proofs.YtaekeogaakogbaaGreatDoor

open Go.ChangeShapes Go.WideShapes Go.ChangeAt Go.RowKit Go.Shelf

theorem JRep.re {w : World} {base : Nat} {iv nv fv : Value} {j j' : JobD} (h : JRep w base iv nv fv j) (e1 : j'.items = j.items) (e2 : j'.notes = j.notes) (e3 : j'.floats = j.floats) : JRep w base iv nv fv j' :=
  ⟨by rw [e1]; exact h.items, by rw [e2]; exact h.notes, by rw [e3]; exact h.floats⟩
theorem cases18 {i : Nat} (h : i < 18) : i = 0 ∨ i = 1 ∨ i = 2 ∨ i = 3 ∨ i = 4 ∨ i = 5 ∨ i = 6 ∨ i = 7 ∨ i = 8 ∨ i = 9 ∨ i = 10 ∨ i = 11 ∨ i = 12 ∨ i = 13 ∨ i = 14 ∨ i = 15 ∨ i = 16 ∨ i = 17 := by omega
theorem set_call {i : Nat} (hi : i < 18) (b c : Nat) (x n : Int) (w : World) (hc : w.cell? ⟨c, 0, none⟩ = some (.func (Fn.func (gat.getD i 0)) #[] #[])) (hb : w.cell? ⟨b, i, none⟩ = some (.int .i64 x)) (hf : w.frozen? ⟨b, i, none⟩ = false) :
    Calls Tryz.prog (gset.getD i 0) #[.pointer (some ⟨b, 0, none⟩), .int .i64 n, .pointer (some ⟨c, 0, none⟩)] w fun e w' => e = .returned (.tuple #[]) ∧ w' = w.setCell ⟨b, i, none⟩ (.int .i64 n) := by
  rcases cases18 hi with rfl | rfl | rfl | rfl | rfl | rfl | rfl | rfl | rfl | rfl | rfl | rfl | rfl | rfl | rfl | rfl | rfl | rfl
  · exact set_0 b c x n w hc hb hf
  · exact set_1 b c x n w hc hb hf
  · exact set_2 b c x n w hc hb hf
  · exact set_3 b c x n w hc hb hf
  · exact set_4 b c x n w hc hb hf
  · exact set_5 b c x n w hc hb hf
  · exact set_6 b c x n w hc hb hf
  · exact set_7 b c x n w hc hb hf
  · exact set_8 b c x n w hc hb hf
  · exact set_9 b c x n w hc hb hf
  · exact set_10 b c x n w hc hb hf
  · exact set_11 b c x n w hc hb hf
  · exact set_12 b c x n w hc hb hf
  · exact set_13 b c x n w hc hb hf
  · exact set_14 b c x n w hc hb hf
  · exact set_15 b c x n w hc hb hf
  · exact set_16 b c x n w hc hb hf
  · exact set_17 b c x n w hc hb hf
theorem gset_two {i : Nat} (hi : i < 18) : gset.getD i 0 = 75 ∨ gset.getD i 0 = 77 := by
  rcases cases18 hi with rfl | rfl | rfl | rfl | rfl | rfl | rfl | rfl | rfl | rfl | rfl | rfl | rfl | rfl | rfl | rfl | rfl | rfl <;> decide
theorem gi_at {i : Nat} (hi : i < 18) : gi (gwAt i) = some i := by
  rcases cases18 hi with rfl | rfl | rfl | rfl | rfl | rfl | rfl | rfl | rfl | rfl | rfl | rfl | rfl | rfl | rfl | rfl | rfl | rfl <;> decide
theorem gi_gw {w : List UInt8} {i : Nat} (h : gi w = some i) : i < 18 ∧ gwAt i = w := by
  obtain ⟨h1, h2⟩ := gi_lt h
  refine ⟨h1, ?_⟩
  unfold gwAt
  rw [List.getD_eq_getElem?_getD, h2]; rfl
/-- A geometry with a number more. -/
def setJ (j : JobD) (i : Nat) (ns : List Int) : Option (JobD × Nat) := match ns with
  | [n] => if n = 0 then none else some ({ j with g := j.g.set i n }, i + 1)
  | _ => none
theorem setJ_many {j : JobD} {i : Nat} {ns : List Int} (h : ns.length ≠ 1) : setJ j i ns = none := by
  unfold setJ
  split
  · exact absurd rfl h
  · rfl
theorem headJ_at {j : JobD} {next : Nat} {wd : List UInt8} {ns : List Int} (hwd : wd ≠ wBal) {i : Nat} (hi : i < 18) (hn : next ≤ i) (e : gwAt i = wd) : headJ j next wd ns = setJ j i ns := by
  unfold headJ
  rw [if_neg hwd, ← e, gi_at hi]
  simp only
  rw [if_neg (by omega)]
  rfl
theorem headJ_not {j : JobD} {next : Nat} {wd : List UInt8} {ns : List Int} (hwd : wd ≠ wBal) (hall : ∀ i, next ≤ i → i < 18 → gwAt i ≠ wd) : headJ j next wd ns = none := by
  unfold headJ
  rw [if_neg hwd]
  cases hg : gi wd with
  | none => rfl
  | some i =>
    obtain ⟨h1, h2⟩ := gi_gw hg
    simp only
    rw [if_pos (Nat.lt_of_not_le fun hle => hall i hle h1 h2)]
/-- What the reader's head leaves. -/
def HeadOf (W : World) (R : Nat) (o : Option (JobD × Nat)) (w1 : World) (e : Ending) (w2 : World) : Prop := KeepJ W R w1 w2 ∧ R < w2.heap.size ∧
  match o with
  | some (j', n') => e = .returned (.bool true) ∧ Rdr w2 R W.heap.size j' n'
  | none => e = .returned (.bool false)
set_option maxRecDepth 100000 in
set_option maxHeartbeats 8000000 in
theorem head_other (W : World) (R : Nat) (j : JobD) (next : Nat) (wd : List UInt8) (hwd : wd ≠ wBal) (B : Nat) (a : Option Addr) (c : Nat) (ns : List Int) (w1 : World) (k1 : Kp W w1) (hWR : W.heap.size ≤ R) (h : Rdr w1 R W.heap.size j next) (hgl : j.g.length = 18) (_hnx : next ≤ 20) (hn1 : ns.length ≤ 10000) (hr : Row w1 B 2 1 enc1 (.slice a ns.length c) ns) :
    Calls Tryz.prog 25 #[.pointer (some ⟨R, 0, none⟩), sv wd, .slice a ns.length c] w1 (HeadOf W R (headJ j next wd ns) w1) := by
  have HH : Hid (∀ i, i < 18 → next ≤ i → gwAt i = wd → headJ j next wd ns = setJ j i ns) := Lib.hid fun i hi hn e => headJ_at hwd hi hn e
  have HN : Hid ((∀ i, next ≤ i → i < 18 → gwAt i ≠ wd) → headJ j next wd ns = none) := Lib.hid fun hall => headJ_not hwd hall
  have HR := Lib.hid h
  have HRW := Lib.hid hr
  obtain ⟨iv, nv, fv, hB, hJ⟩ := h
  have c22 := hB.cell 22 (rdr_hi hgl 4)
  have hRl := hB.lt
  have hwb : (wd == [98, 97, 108, 97, 110, 99, 101]) = false := beq_eq_false_iff_ne.2 hwd
  obtain ⟨rs, hrs⟩ : ∃ rs, headJ j next wd ns = rs := ⟨_, rfl⟩
  rw [hrs] at HH HN ⊢
  clear hB hJ hr hwd hrs
  go_enter Tryz.func25, Tryz.ntmps25
  go_wp2_with fail
  refine (gauges_any _).mono ?_
  rintro e w2 ⟨b, rfl, hG, hbw, k2⟩
  have kw2 : Kp w1 w2 := ((by (repeat (first | with_reducible assumption | with_reducible exact Kp.refl _ | with_reducible refine Kp.drew ?_ | with_reducible refine Kp.drewN ?_ _ | with_reducible refine Kp.alloc ?_ _ | ((with_reducible refine Kp.setCell ?_ ?_ _); rotate_left; (focus (first | omega | (simp; done) | (simp; omega)))) | with_reducible refine Kp.trans ?_ (by assumption)))) : Kp w1 _).trans k2
  have d22 := (kw2.cell (p := ⟨R, 22, none⟩) hRl).trans c22
  have hRl2 := Nat.lt_of_lt_of_le hRl kw2.size
  have HG := Lib.hid hG
  have hbl := hG.1
  clear hG k2 c22
  go_wp2_with fail
  go_loopw [9] (fun v9 wr => ∃ i : Nat, next ≤ i ∧ (i ≤ 18 ∨ i = next) ∧ v9 = .int .i64 (i : Int) ∧ (∀ k, next ≤ k → k < i → gwAt k ≠ wd) ∧ wr = w2) (fun v9 _ => 21 - (intOf v9).toNat)
  case atStart => exact ⟨next, Nat.le_refl _, .inr rfl, rfl, fun k h1 h2 => by omega, rfl⟩
  case round =>
    obtain ⟨i, hni, hi18, rfl, hall, rfl⟩ := hrel
    by_cases hlt : i < 18
    · have ji : decide ((i : Int) < 18) = true := decide_eq_true (by omega)
      have ji2 : decide (i < 18) = true := decide_eq_true hlt
      obtain ⟨cc, g0, g1', g2', g3', g4'⟩ := HG.out.2 i hlt
      obtain ⟨Y, hY⟩ : ∃ Y, gwAt i = Y := ⟨_, rfl⟩
      rw [hY] at g0
      obtain ⟨F2, hF2⟩ : ∃ F2, gset.getD i 0 = F2 := ⟨_, rfl⟩
      rw [hF2] at g2'
      by_cases hw : Y = wd
      · have jw : (Y == wd) = true := beq_iff_eq.2 hw
        have hrs := HH.out i hlt hni (hY.trans hw)
        subst hrs
        clear hall hY hw HH HN
        by_cases h1 : ns.length = 1
        · obtain ⟨n, rfl⟩ : ∃ n, ns = [n] := by
            obtain _ | ⟨n, _ | ⟨m, ns⟩⟩ := ns <;> simp at h1
            exact ⟨n, rfl⟩
          obtain ⟨g, rfl, hg, -, hmc, hcm, hcell, cs, hcs⟩ := int_row HRW.out (by simp)
          have hgR := HR.out.ne hcs (by decide)
          have d0 := (kw2.cell (p := ⟨g, 0, none⟩) hg).trans (hcell 0 n rfl)
          simp only [List.length_singleton] at hmc
          by_cases hz : n = 0
          · subst hz
            go_wp2_with fail
            (try go_ret)
            exact ⟨(KeepJ.refl R k1).kp kw2, hRl2, rfl⟩
          · have jz : (n == 0) = false := beq_eq_false_iff_ne.2 hz
            have jz2 : decide (n = 0) = false := decide_eq_false hz
            have hse : setJ j i [n] = some ({ j with g := j.g.set i n }, i + 1) := by simp [setJ, hz]
            have hlt' : (i : Int) < 18 := by omega
            rw [hse]
            clear hse hcell
            obtain ⟨iv2, nv2, fv2, hB2, hJ2⟩ := HR.out.kp kw2
            obtain ⟨xg, hxg⟩ : ∃ x, j.g[i]? = some x := ⟨j.g[i]'(by omega), List.getElem?_eq_getElem _⟩
            have ci := hB2.cell i (rdr_lo hxg)
            have fi := hB2.free i
            have HB2 := Lib.hid hB2
            have HJ2 := Lib.hid hJ2
            have hg2 : g < wr.heap.size := Nat.lt_of_lt_of_le hg kw2.size
            clear hB2 hJ2
            have hbR : b ≠ R := by omega
            rcases gset_two hlt with e | e
            all_goals (rw [hF2] at e; subst e)
            · have SC := Lib.hid (fun w' h1 h2 h3 => set_call hlt R cc xg n w' h1 h2 h3)
              rw [hF2] at SC
              clear hF2
              go_wp2_with fail
              (refine wp_region_held_drew (S := (fun w' => w'.cell? ⟨b, i * 3 + 2, none⟩ = some (.func (Fn.func 75) #[] #[.pointer (some ⟨cc, 0, none⟩)]) ∧ w'.cell? ⟨g, 0, none⟩ = some (.int .i64 n))) (by kernel_rfl) ?_ (fun hHd => ?_); (focus ((try dsimp only); exact ⟨g2', d0⟩)))
              (refine takeH (i := 0) (oi := ?o127) (v := ?v127) ?h127 (by kernel_rfl) ?q127 (Or.inl ⟨?w127, ?y127⟩) (by assumption) ?r127; (case h127 => ((simp only [g1, g3]); rfl)); (case q127 => exact fun _ _ _ h => h); (case w127 => rfl); (case y127 => (intro w' hSw; (try dsimp only at hSw); go_simp; (try with_reducible rfl))); (try simp only [Act.put, s1, s2, s3]))
              (refine takeH (i := 1) (oi := ?o128) (v := ?v128) ?h128 (by kernel_rfl) ?q128 (Or.inl ⟨?w128, ?y128⟩) (by assumption) ?r128; (case h128 => ((simp only [g1, g2, g3]); rfl)); (case q128 => exact fun _ _ _ h => h); (case w128 => rfl); (case y128 => (intro w' hSw; (try dsimp only at hSw); go_simp; (try with_reducible rfl))); (try simp only [Act.put, s1, s2, s3]))
              (refine takeH (i := 2) (oi := ?o129) (v := ?v129) ?h129 (by kernel_rfl) ?q129 (Or.inl ⟨?w129, ?y129⟩) (by assumption) ?r129; (case h129 => ((simp only [g1, g2, g3]); rfl)); (case q129 => exact fun _ _ _ h => h); (case w129 => rfl); (case y129 => (intro w' hSw; (try dsimp only at hSw); go_simp; (try with_reducible rfl))); (try simp only [Act.put, s1, s2, s3]))
              (refine takeH (i := 3) (oi := ?o130) (v := ?v130) ?h130 (by kernel_rfl) ?q130 (Or.inl ⟨?w130, ?y130⟩) (by assumption) ?r130; (case h130 => ((simp only [g1, g2, g3]); rfl)); (case q130 => exact fun _ _ _ h => h); (case w130 => rfl); (case y130 => (intro w' hSw; (try dsimp only at hSw); go_simp; (try with_reducible rfl))); (try simp only [Act.put, s1, s2, s3]))
              (refine takeH (i := 4) (oi := ?o131) (v := ?v131) ?h131 (by kernel_rfl) ?q131 (Or.inl ⟨?w131, ?y131⟩) (by assumption) ?r131; (case h131 => ((simp only [g1, g2, g3]); rfl)); (case q131 => exact fun _ _ _ h => h); (case w131 => rfl); (case y131 => (intro w' hSw; (try dsimp only at hSw); go_simp; (try with_reducible rfl))); (try simp only [Act.put, s1, s2, s3]))
              (refine takeH (i := 5) (oi := ?o132) (v := ?v132) ?h132 (by kernel_rfl) ?q132 (Or.inl ⟨?w132, ?y132⟩) (by assumption) ?r132; (case h132 => ((simp only [g1, g2, g3]); rfl)); (case q132 => exact fun _ _ _ h => h); (case w132 => rfl); (case y132 => (intro w' hSw; (try dsimp only at hSw); go_simp; (try with_reducible rfl))); (try simp only [Act.put, s1, s2, s3]))
              (refine takeH (i := 6) (oi := ?o133) (v := ?v133) ?h133 (by kernel_rfl) ?q133 (Or.inl ⟨?w133, ?y133⟩) (by assumption) ?r133; (case h133 => ((simp only [g1, g2, g3]); rfl)); (case q133 => exact fun _ _ _ h => h); (case w133 => rfl); (case y133 => (intro w' hSw; (try dsimp only at hSw); go_simp; (try with_reducible rfl))); (try simp only [Act.put, s1, s2, s3]))
              (refine takeH (i := 7) (oi := ?o134) (v := ?v134) ?h134 (by kernel_rfl) ?q134 (Or.inl ⟨?w134, ?y134⟩) (by assumption) ?r134; (case h134 => ((simp only [g1, g2, g3]); rfl)); (case q134 => exact fun _ _ _ h => h); (case w134 => rfl); (case y134 => (intro w' hSw; (try dsimp only at hSw); go_simp; (try with_reducible rfl))); (try simp only [Act.put, s1, s2, s3]))
              (refine takeH (i := 8) (oi := ?o135) (v := ?v135) ?h135 (by kernel_rfl) ?q135 (Or.inl ⟨?w135, ?y135⟩) (by assumption) ?r135; (case h135 => ((simp only [g1, g2, g3]); rfl)); (case q135 => exact fun _ _ _ h => h); (case w135 => rfl); (case y135 => (intro w' hSw; (try dsimp only at hSw); go_simp; (try with_reducible rfl))); (try simp only [Act.put, s1, s2, s3]))
              (refine takeH (i := 9) (oi := ?o136) (v := ?v136) ?h136 (by kernel_rfl) ?q136 (Or.inl ⟨?w136, ?y136⟩) (by assumption) ?r136; (case h136 => ((simp only [g1, g2, g3]); rfl)); (case q136 => exact fun _ _ _ h => h); (case w136 => rfl); (case y136 => (intro w' hSw; (try dsimp only at hSw); go_simp; (try with_reducible rfl))); (try simp only [Act.put, s1, s2, s3]))
              (refine takeH (i := 10) (oi := ?o137) (v := ?v137) ?h137 (by kernel_rfl) ?q137 (Or.inl ⟨?w137, ?y137⟩) (by assumption) ?r137; (case h137 => ((simp only [g1, g2, g3]); rfl)); (case q137 => exact fun _ _ _ h => h); (case w137 => rfl); (case y137 => (intro w' hSw; (try dsimp only at hSw); go_simp; (try with_reducible rfl))); (try simp only [Act.put, s1, s2, s3]))
              (refine takeH (i := 11) (oi := ?o138) (v := ?v138) ?h138 (by kernel_rfl) ?q138 (Or.inl ⟨?w138, ?y138⟩) (by assumption) ?r138; (case h138 => ((simp only [g1, g2, g3]); rfl)); (case q138 => exact fun _ _ _ h => h); (case w138 => rfl); (case y138 => (intro w' hSw; (try dsimp only at hSw); go_simp; (try with_reducible rfl))); (try simp only [Act.put, s1, s2, s3]))
              (refine wpAnyH_ready (rs := [12]) (by kernel_rfl) (by simp) ?_; refine AllReadyH.cons (o := ?o139) ?h139 (fun K hK => ?s139) AllReadyH.nil; (case h139 => (first | ((simp only [g1, g2, g3]); rfl) | rfl)); (go_simp; go_at_call 75; refine (SC.out wr.drew (show wr.cell? _ = _ from g3') (show wr.cell? _ = _ from ci) (show wr.frozen? _ = _ from fi)).mono ?_; rintro e w4 ⟨rfl, hw4⟩; (try dsimp only); rw [hw4]; clear hw4 w4); refine hK.out _ _ ?_ (fun hHd => ?_); (focus ((try dsimp only); exact ⟨(cell_heap (Below.heap_setCell _ _ _ _ hbR) _).trans g2', (cell_heap (Below.heap_setCell _ _ _ _ hgR) _).trans d0⟩)); clear hK K; (try simp only [Act.put]))
              refine wpAnyH_done (by kernel_rfl) ?_ _
              have zB := (HB2.out.drew).set i (.int .i64 n)
              rw [rdr_setg (by omega)] at zB
              have zJ := HJ2.out.move ((TypedJ.kp ((Kp.refl wr).drew)))
              have zJ2 := zJ.move (TypedJ.away HB2.out.drew notJt_rdr i (.int .i64 n))
              have zK := ((KeepJ.refl R k1).kp (kw2.drew)).set hWR i (.int .i64 n)
              (try clear hHd)
              generalize wr.drew.setCell ⟨R, i, none⟩ (.int .i64 n) = w5 at zB zJ2 zK ⊢
              have hgs : (j.g.set i n).length = 18 := by rw [List.length_set]; exact hgl
              have y22 := zB.cell 22 (rdr_hi hgs 4)
              have f22 := zB.free 22
              have zl := zB.lt
              go_wp2_with fail
              have zB2 := zB.set 22 (.int .i64 ((i : Int) + 1))
              rw [rdr_22 hgs] at zB2
              (try go_ret)
              exact ⟨zK.set hWR 22 _, by simpa using zl, rfl, ⟨_, _, _, zB2, (zJ2.move (TypedJ.away zB notJt_rdr 22 _)).re rfl rfl rfl⟩⟩
            · have SC := Lib.hid (fun w' h1 h2 h3 => set_call hlt R cc xg n w' h1 h2 h3)
              rw [hF2] at SC
              clear hF2
              go_wp2_with fail
              (refine wp_region_held_drew (S := (fun w' => w'.cell? ⟨b, i * 3 + 2, none⟩ = some (.func (Fn.func 77) #[] #[.pointer (some ⟨cc, 0, none⟩)]) ∧ w'.cell? ⟨g, 0, none⟩ = some (.int .i64 n))) (by kernel_rfl) ?_ (fun hHd => ?_); (focus ((try dsimp only); exact ⟨g2', d0⟩)))
              (refine takeH (i := 0) (oi := ?o141) (v := ?v141) ?h141 (by kernel_rfl) ?q141 (Or.inl ⟨?w141, ?y141⟩) (by assumption) ?r141; (case h141 => ((simp only [g1, g3]); rfl)); (case q141 => exact fun _ _ _ h => h); (case w141 => rfl); (case y141 => (intro w' hSw; (try dsimp only at hSw); go_simp; (try with_reducible rfl))); (try simp only [Act.put, s1, s2, s3]))
              (refine takeH (i := 1) (oi := ?o142) (v := ?v142) ?h142 (by kernel_rfl) ?q142 (Or.inl ⟨?w142, ?y142⟩) (by assumption) ?r142; (case h142 => ((simp only [g1, g2, g3]); rfl)); (case q142 => exact fun _ _ _ h => h); (case w142 => rfl); (case y142 => (intro w' hSw; (try dsimp only at hSw); go_simp; (try with_reducible rfl))); (try simp only [Act.put, s1, s2, s3]))
              (refine takeH (i := 2) (oi := ?o143) (v := ?v143) ?h143 (by kernel_rfl) ?q143 (Or.inl ⟨?w143, ?y143⟩) (by assumption) ?r143; (case h143 => ((simp only [g1, g2, g3]); rfl)); (case q143 => exact fun _ _ _ h => h); (case w143 => rfl); (case y143 => (intro w' hSw; (try dsimp only at hSw); go_simp; (try with_reducible rfl))); (try simp only [Act.put, s1, s2, s3]))
              (refine takeH (i := 3) (oi := ?o144) (v := ?v144) ?h144 (by kernel_rfl) ?q144 (Or.inl ⟨?w144, ?y144⟩) (by assumption) ?r144; (case h144 => ((simp only [g1, g2, g3]); rfl)); (case q144 => exact fun _ _ _ h => h); (case w144 => rfl); (case y144 => (intro w' hSw; (try dsimp only at hSw); go_simp; (try with_reducible rfl))); (try simp only [Act.put, s1, s2, s3]))
              (refine takeH (i := 4) (oi := ?o145) (v := ?v145) ?h145 (by kernel_rfl) ?q145 (Or.inl ⟨?w145, ?y145⟩) (by assumption) ?r145; (case h145 => ((simp only [g1, g2, g3]); rfl)); (case q145 => exact fun _ _ _ h => h); (case w145 => rfl); (case y145 => (intro w' hSw; (try dsimp only at hSw); go_simp; (try with_reducible rfl))); (try simp only [Act.put, s1, s2, s3]))
              (refine takeH (i := 5) (oi := ?o146) (v := ?v146) ?h146 (by kernel_rfl) ?q146 (Or.inl ⟨?w146, ?y146⟩) (by assumption) ?r146; (case h146 => ((simp only [g1, g2, g3]); rfl)); (case q146 => exact fun _ _ _ h => h); (case w146 => rfl); (case y146 => (intro w' hSw; (try dsimp only at hSw); go_simp; (try with_reducible rfl))); (try simp only [Act.put, s1, s2, s3]))
              (refine takeH (i := 6) (oi := ?o147) (v := ?v147) ?h147 (by kernel_rfl) ?q147 (Or.inl ⟨?w147, ?y147⟩) (by assumption) ?r147; (case h147 => ((simp only [g1, g2, g3]); rfl)); (case q147 => exact fun _ _ _ h => h); (case w147 => rfl); (case y147 => (intro w' hSw; (try dsimp only at hSw); go_simp; (try with_reducible rfl))); (try simp only [Act.put, s1, s2, s3]))
              (refine takeH (i := 7) (oi := ?o148) (v := ?v148) ?h148 (by kernel_rfl) ?q148 (Or.inl ⟨?w148, ?y148⟩) (by assumption) ?r148; (case h148 => ((simp only [g1, g2, g3]); rfl)); (case q148 => exact fun _ _ _ h => h); (case w148 => rfl); (case y148 => (intro w' hSw; (try dsimp only at hSw); go_simp; (try with_reducible rfl))); (try simp only [Act.put, s1, s2, s3]))
              (refine takeH (i := 8) (oi := ?o149) (v := ?v149) ?h149 (by kernel_rfl) ?q149 (Or.inl ⟨?w149, ?y149⟩) (by assumption) ?r149; (case h149 => ((simp only [g1, g2, g3]); rfl)); (case q149 => exact fun _ _ _ h => h); (case w149 => rfl); (case y149 => (intro w' hSw; (try dsimp only at hSw); go_simp; (try with_reducible rfl))); (try simp only [Act.put, s1, s2, s3]))
              (refine takeH (i := 9) (oi := ?o150) (v := ?v150) ?h150 (by kernel_rfl) ?q150 (Or.inl ⟨?w150, ?y150⟩) (by assumption) ?r150; (case h150 => ((simp only [g1, g2, g3]); rfl)); (case q150 => exact fun _ _ _ h => h); (case w150 => rfl); (case y150 => (intro w' hSw; (try dsimp only at hSw); go_simp; (try with_reducible rfl))); (try simp only [Act.put, s1, s2, s3]))
              (refine takeH (i := 10) (oi := ?o151) (v := ?v151) ?h151 (by kernel_rfl) ?q151 (Or.inl ⟨?w151, ?y151⟩) (by assumption) ?r151; (case h151 => ((simp only [g1, g2, g3]); rfl)); (case q151 => exact fun _ _ _ h => h); (case w151 => rfl); (case y151 => (intro w' hSw; (try dsimp only at hSw); go_simp; (try with_reducible rfl))); (try simp only [Act.put, s1, s2, s3]))
              (refine takeH (i := 11) (oi := ?o152) (v := ?v152) ?h152 (by kernel_rfl) ?q152 (Or.inl ⟨?w152, ?y152⟩) (by assumption) ?r152; (case h152 => ((simp only [g1, g2, g3]); rfl)); (case q152 => exact fun _ _ _ h => h); (case w152 => rfl); (case y152 => (intro w' hSw; (try dsimp only at hSw); go_simp; (try with_reducible rfl))); (try simp only [Act.put, s1, s2, s3]))
              (refine wpAnyH_ready (rs := [12]) (by kernel_rfl) (by simp) ?_; refine AllReadyH.cons (o := ?o153) ?h153 (fun K hK => ?s153) AllReadyH.nil; (case h153 => (first | ((simp only [g1, g2, g3]); rfl) | rfl)); (go_simp; go_at_call 77; refine (SC.out wr.drew (show wr.cell? _ = _ from g3') (show wr.cell? _ = _ from ci) (show wr.frozen? _ = _ from fi)).mono ?_; rintro e w4 ⟨rfl, hw4⟩; (try dsimp only); rw [hw4]; clear hw4 w4); refine hK.out _ _ ?_ (fun hHd => ?_); (focus ((try dsimp only); exact ⟨(cell_heap (Below.heap_setCell _ _ _ _ hbR) _).trans g2', (cell_heap (Below.heap_setCell _ _ _ _ hgR) _).trans d0⟩)); clear hK K; (try simp only [Act.put]))
              refine wpAnyH_done (by kernel_rfl) ?_ _
              have zB := (HB2.out.drew).set i (.int .i64 n)
              rw [rdr_setg (by omega)] at zB
              have zJ := HJ2.out.move ((TypedJ.kp ((Kp.refl wr).drew)))
              have zJ2 := zJ.move (TypedJ.away HB2.out.drew notJt_rdr i (.int .i64 n))
              have zK := ((KeepJ.refl R k1).kp (kw2.drew)).set hWR i (.int .i64 n)
              (try clear hHd)
              generalize wr.drew.setCell ⟨R, i, none⟩ (.int .i64 n) = w5 at zB zJ2 zK ⊢
              have hgs : (j.g.set i n).length = 18 := by rw [List.length_set]; exact hgl
              have y22 := zB.cell 22 (rdr_hi hgs 4)
              have f22 := zB.free 22
              have zl := zB.lt
              go_wp2_with fail
              have zB2 := zB.set 22 (.int .i64 ((i : Int) + 1))
              rw [rdr_22 hgs] at zB2
              (try go_ret)
              exact ⟨zK.set hWR 22 _, by simpa using zl, rfl, ⟨_, _, _, zB2, (zJ2.move (TypedJ.away zB notJt_rdr 22 _)).re rfl rfl rfl⟩⟩
        · have jl : ((ns.length : Int) == 1) = false := beq_eq_false_iff_ne.2 (by omega)
          have jl2 : (ns.length == 1) = false := beq_eq_false_iff_ne.2 h1
          have jl3 : decide (ns.length = 1) = false := decide_eq_false h1
          rw [setJ_many h1]
          go_wp2_with fail
          (try go_ret)
          exact ⟨(KeepJ.refl R k1).kp kw2, hRl2, rfl⟩
      · have jw : (Y == wd) = false := beq_eq_false_iff_ne.2 hw
        have HALL := Lib.hid hall
        have HY := Lib.hid hY
        clear hall hY
        go_wp2_with fail
        go_roundw
        case rel => exact ⟨i + 1, by omega, by omega, by go_num, fun k h1 h2 => by
          by_cases e : k = i
          · rw [e, HY.out]; exact hw
          · exact HALL.out k h1 (by omega), by first | rfl | trivial⟩
        case measure => simp [intOf]; omega
    · have ji : decide ((i : Int) < 18) = false := decide_eq_false (by omega)
      have ji2 : decide (i < 18) = false := decide_eq_false hlt
      have hrs := HN.out fun k h1 h2 => hall k h1 (by omega)
      subst hrs
      clear hall
      go_wp2_with fail
      (try go_ret)
      exact ⟨(KeepJ.refl R k1).kp kw2, hRl2, rfl⟩
set_option maxRecDepth 100000 in
set_option maxHeartbeats 8000000 in
theorem head_bal (W : World) (R : Nat) (j : JobD) (next : Nat) (a : Option Addr) (c : Nat) (ns : List Int) (w1 : World) (k1 : Kp W w1) (hWR : W.heap.size ≤ R) (h : Rdr w1 R W.heap.size j next) (hgl : j.g.length = 18) (hnx : next ≤ 20) (hn1 : ns.length ≤ 10000) :
    Calls Tryz.prog 25 #[.pointer (some ⟨R, 0, none⟩), sv wBal, .slice a ns.length c] w1 (HeadOf W R (headJ j next wBal ns) w1) := by
  have HR := Lib.hid h
  obtain ⟨iv, nv, fv, hB, hJ⟩ := h
  have c22 := hB.cell 22 (rdr_hi hgl 4)
  have hRl := hB.lt
  obtain ⟨rs, hrs⟩ : ∃ rs, headJ j next wBal ns = rs := ⟨_, rfl⟩
  have HRS : Hid (rs = if next ≤ 18 ∧ ns = [] then some ({ j with bal := true }, 19) else none) := Lib.hid (by rw [← hrs]; unfold headJ; rw [if_pos rfl])
  rw [hrs]
  clear hB hJ hrs
  go_enter Tryz.func25, Tryz.ntmps25
  go_wp2_with fail
  refine (gauges_any _).mono ?_
  rintro e w2 ⟨b, rfl, hG, hbw, k2⟩
  have kw2 : Kp w1 w2 := ((by (repeat (first | with_reducible assumption | with_reducible exact Kp.refl _ | with_reducible refine Kp.drew ?_ | with_reducible refine Kp.drewN ?_ _ | with_reducible refine Kp.alloc ?_ _ | ((with_reducible refine Kp.setCell ?_ ?_ _); rotate_left; (focus (first | omega | (simp; done) | (simp; omega)))) | with_reducible refine Kp.trans ?_ (by assumption)))) : Kp w1 _).trans k2
  obtain ⟨iv2, nv2, fv2, hB2, hJ2⟩ := HR.out.kp kw2
  have d22 := hB2.cell 22 (rdr_hi hgl 4)
  have d18 := hB2.cell 18 (rdr_hi hgl 0)
  have f18 := hB2.free 18
  have f22 := hB2.free 22
  have hRl2 := hB2.lt
  have HB2 := Lib.hid hB2
  have HJ2 := Lib.hid hJ2
  have zB := (hB2.set 18 (.bool true))
  rw [rdr_18 hgl] at zB
  have zB2 := zB.set 22 (.int .i64 19)
  rw [rdr_22 hgl] at zB2
  have zJ := ((hJ2.move (TypedJ.away hB2 notJt_rdr 18 (.bool true))).move (TypedJ.away zB notJt_rdr 22 (.int .i64 19)))
  have ZB := Lib.hid zB2
  have ZJ := Lib.hid zJ
  have ZK := Lib.hid ((((KeepJ.refl R k1).kp kw2).set hWR 18 (.bool true)).set hWR 22 (.int .i64 19))
  clear hG k2 c22 hB2 hJ2 zB zB2 zJ
  by_cases h1 : next ≤ 18
  · have j1 : decide ((next : Int) ≤ 18) = true := decide_eq_true (by omega)
    have j1' : decide (next ≤ 18) = true := decide_eq_true h1
    by_cases h2 : ns = []
    · subst h2
      have hrs := HRS.out
      rw [if_pos ⟨h1, rfl⟩] at hrs
      subst hrs
      clear HRS
      go_wp2_with fail
      (try go_ret)
      exact ⟨ZK.out, by simpa using hRl2, rfl, ⟨_, _, _, ZB.out, ZJ.out.re rfl rfl rfl⟩⟩
    · have hl0 : ns.length ≠ 0 := fun e => h2 (List.length_eq_zero_iff.1 e)
      have j2 : ((ns.length : Int) == 0) = false := beq_eq_false_iff_ne.2 (by omega)
      have j3 : decide (ns.length = 0) = false := decide_eq_false hl0
      have j4 : decide (ns = []) = false := decide_eq_false h2
      have hrs := HRS.out
      rw [if_neg (fun hh => h2 hh.2)] at hrs
      subst hrs
      clear HRS
      go_wp2_with fail
      (try go_ret)
      exact ⟨ZK.out, by simpa using hRl2, by first | rfl | simp [h2]⟩
  · have j1 : decide ((next : Int) ≤ 18) = false := decide_eq_false (by omega)
    have j1' : decide (next ≤ 18) = false := decide_eq_false h1
    have hrs := HRS.out
    rw [if_neg (fun hh => h1 hh.1)] at hrs
    subst hrs
    clear HRS
    go_wp2_with fail
    (try go_ret)
    exact ⟨ZK.out, by simpa using hRl2, rfl⟩
theorem head_any (W : World) (R : Nat) (j : JobD) (next : Nat) (wd : List UInt8) (B : Nat) (a : Option Addr) (c : Nat) (ns : List Int) (w1 : World) (k1 : Kp W w1) (hWR : W.heap.size ≤ R) (h : Rdr w1 R W.heap.size j next) (hgl : j.g.length = 18) (hnx : next ≤ 20) (hn1 : ns.length ≤ 10000) (hr : Row w1 B 2 1 enc1 (.slice a ns.length c) ns) :
    Calls Tryz.prog 25 #[.pointer (some ⟨R, 0, none⟩), sv wd, .slice a ns.length c] w1 (HeadOf W R (headJ j next wd ns) w1) := by
  by_cases hw : wd = wBal
  · subst hw
    exact head_bal W R j next a c ns w1 k1 hWR h hgl hnx hn1
  · exact head_other W R j next wd hw B a c ns w1 k1 hWR h hgl hnx hn1 hr
end Go.Proofs.YtaekeogaakogbaaGreatDoor
