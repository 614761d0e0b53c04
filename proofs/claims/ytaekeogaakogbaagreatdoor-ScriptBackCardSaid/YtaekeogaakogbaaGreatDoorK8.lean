/- The document's head: a geometry's number (tympanref43). -/
import Derived.Test.YtaekeogaakogbaaGreatDoorK7

namespace Go.Proofs.YtaekeogaakogbaaGreatDoor

open Go.ChangeShapes Go.WideShapes Go.ChangeAt Go.RowKit Go.Shelf

theorem take_set (X : List Value) {n k : Nat} (hk : k < n) (hn : n ≤ X.length) (u : Value) : X.take 0 ++ (X.take n).set k u ++ X.drop (0 + ((X.take n).set k u).length) = X.set k u := by
  rw [List.take_zero, List.nil_append, Nat.zero_add, List.length_set, List.length_take, Nat.min_eq_left hn]
  conv => rhs; rw [← List.take_append_drop n X]
  rw [List.set_append_left _ _ (by rw [List.length_take]; omega)]
theorem take_range {w : World} {b : Nat} {X : List Value} {t : TypeId} (h : Blk w b X t) (n : Nat) : w.rangeAt b 0 (X.take n) := fun j v hv => by
  rw [Nat.zero_add]
  refine h.cell j ?_
  rw [List.getElem?_take] at hv
  split at hv
  · exact hv
  · cases hv
set_option maxRecDepth 100000 in
set_option maxHeartbeats 8000000 in
theorem head43_set (J : List Value) (hJ : J.length = 22) (h1 : ∀ v ∈ J, v.oneCell' = true) (last : Int) (ok : Bool) (k : Nat) (hk : k < 18) (hlast : last < (k : Int)) (n : Int) (hn : n ≠ 0) (B : Nat) (a : Option Addr) (c : Nat) (w : World) (hr : Row w B 2 1 enc1 (.slice a 1 c) [n]) :
    Calls Tryz.prog 28 #[.agg (stepL J last ok).toArray, .int .i64 (k : Int), .slice a 1 c] w fun e w' => e = .returned (.agg (stepL (J.set k (.int .i64 n)) k true).toArray) ∧ Kp w w' := by
  obtain ⟨g, rfl, hg, -, hmc, hcm, hcell, gs, hgs⟩ := int_row hr (by simp)
  have HGW : Hid (Blk w g gs.toList 2) := Lib.hid ⟨by simpa using hgs⟩
  have d0 := hcell 0 n rfl
  have HL := Lib.hid (stepL_22 hJ last ok)
  have hX24 := stepL_len hJ last ok
  have hX1 := stepL_one h1 last ok
  have j1 : decide ((k : Int) ≤ last) = false := decide_eq_false (by omega)
  have j2 : decide ((k : Int) < 18) = true := decide_eq_true (by omega)
  have j2' : decide (k < 18) = true := decide_eq_true hk
  have j3 : ((k : Int) == 18) = false := beq_eq_false_iff_ne.2 (by omega)
  have j3' : (k == 18) = false := beq_eq_false_iff_ne.2 (by omega)
  have j4 : (n == 0) = false := beq_eq_false_iff_ne.2 hn
  obtain ⟨X, hX⟩ : ∃ X, stepL J last ok = X := ⟨_, rfl⟩
  have HXS : Hid (X.set k (.int .i64 n) = stepL (J.set k (.int .i64 n)) last ok) := Lib.hid (by rw [← hX, stepL_set hJ _ _ (by omega)])
  have HM : Hid ((J.set k (.int .i64 n)).length = 22) := Lib.hid (by rw [List.length_set]; exact hJ)
  have HO : Hid (∀ v ∈ J.set k (.int .i64 n), v.oneCell' = true) := Lib.hid (one_set h1 k n)
  obtain ⟨M, hMM⟩ : ∃ M, J.set k (.int .i64 n) = M := ⟨_, rfl⟩
  rw [hX] at HL hX24 hX1 ⊢
  rw [hMM] at HXS HM HO ⊢
  have HBD := Lib.hid (built_step HM.out (k : Int) true)
  obtain ⟨R, hR⟩ : ∃ R, stepL M k true = R := ⟨_, rfl⟩
  have HRL : Hid (R.length = 24) := Lib.hid (by rw [← hR]; exact stepL_len HM.out _ _)
  have HRO : Hid (∀ v ∈ R, v.oneCell' = true) := Lib.hid (by rw [← hR]; exact stepL_one HO.out _ _)
  rw [hR] at HBD ⊢
  have hTS := take_set X (n := 19) (k := k) (by omega) (by omega) (.int .i64 n)
  have hGL : (X.take 19).length = 19 := by rw [List.length_take]; omega
  have hG1 : ∀ v ∈ X.take 19, v.oneCell' = true := fun v hv => hX1 v (List.mem_of_mem_take hv)
  have SG := Lib.hid (setGeom_any (X.take 19) hGL hG1 k hk n)
  have HG1 := Lib.hid (one_set hG1 k n)
  have HGS : Hid (((X.take 19).set k (.int .i64 n)).length = 19) := Lib.hid (by rw [List.length_set]; exact hGL)
  obtain ⟨G', hG'⟩ : ∃ G', (X.take 19).set k (.int .i64 n) = G' := ⟨_, rfl⟩
  rw [hG'] at SG HG1 HGS hTS
  have HRG : Hid (∀ (w' : World) (b : Nat), Blk w' b X 54 → w'.rangeAt b 0 (X.take 19)) := Lib.hid fun w' b h => take_range h 19
  obtain ⟨G, hG⟩ : ∃ G, X.take 19 = G := ⟨_, rfl⟩
  rw [hG] at SG HRG hGL
  have HGL := Lib.hid hGL
  have HTS := Lib.hid hTS
  have HX24 := Lib.hid hX24
  clear hgs hX hMM h1 hJ hR hlast hr hcell hX24 hX1 hTS hGL hG1 hG' hG hn
  go_enter Tryz.func28, Tryz.ntmps28
  go_wp2_with (first
    | (refine boxRowW (vs := X) rfl (.tmp 0) rfl rfl ?_; intro w1 hB hoth hkp hlt; have c22 := hB.cell _ HL.out; have kw1 : Kp w w1 := hkp (Kp.refl w); have e0 := (kw1.cell (p := ⟨g, 0, none⟩) hg).trans d0; have hg1 := Nat.lt_of_lt_of_le hg kw1.size; clear hoth hkp d0))
  refine named_world (F := fun w2 => Blk w2 w.heap.size X 54 ∧ Blk w2 w1.heap.size stepZ 54 ∧ Kp w1 w2) ⟨hB.alloc _, Blk.newL rfl rfl, (Kp.refl w1).alloc _⟩ ?_
  rintro w2 ⟨hB2, hR2, k12⟩
  have e2 := (k12.cell (p := ⟨g, 0, none⟩) hg1).trans e0
  have hg2 : g < w2.heap.size := Nat.lt_of_lt_of_le hg1 k12.size
  have HB2 := Lib.hid hB2
  have HR2 := Lib.hid hR2
  have kw2 := kw1.trans k12
  have hbl := hB2.lt
  clear hB e0 c22 hB2 hR2
  (refine wp_region_held_drew (S := (fun w' => w'.cell? ⟨g, 0, none⟩ = some (.int .i64 n))) (by kernel_rfl) ?_ (fun hHd => ?_); (focus ((try dsimp only); exact e2)))
  (refine takeH (i := 0) (oi := ?o225) (v := ?v225) ?h225 (by kernel_rfl) ?q225 (Or.inl ⟨?w225, ?y225⟩) (by assumption) ?r225; (case h225 => ((simp only [g1, g3]); rfl)); (case q225 => exact fun _ _ _ h => h); (case w225 => rfl); (case y225 => (intro w' hSw; (try dsimp only at hSw); go_simp; (try with_reducible rfl))); (try simp only [Act.put, s1, s2, s3]))
  (refine takeH (i := 1) (oi := ?o226) (v := ?v226) ?h226 (by kernel_rfl) ?q226 (Or.inl ⟨?w226, ?y226⟩) (by assumption) ?r226; (case h226 => ((simp only [g1, g2, g3]); rfl)); (case q226 => exact fun _ _ _ h => h); (case w226 => rfl); (case y226 => (intro w' hSw; (try dsimp only at hSw); go_simp; (try with_reducible rfl))); (try simp only [Act.put, s1, s2, s3]))
  (refine takeH (i := 3) (oi := ?o227) (v := ?v227) ?h227 (by kernel_rfl) ?q227 (Or.inl ⟨?w227, ?y227⟩) (by assumption) ?r227; (case h227 => ((simp only [g1, g2, g3]); rfl)); (case q227 => exact fun _ _ _ h => h); (case w227 => rfl); (case y227 => (intro w' hSw; (try dsimp only at hSw); go_simp; (try with_reducible rfl))); (try simp only [Act.put, s1, s2, s3]))
  (refine takeH (i := 4) (oi := ?o228) (v := ?v228) ?h228 (by kernel_rfl) ?q228 (Or.inl ⟨?w228, ?y228⟩) (by assumption) ?r228; (case h228 => ((simp only [g1, g2, g3]); rfl)); (case q228 => exact fun _ _ _ h => h); (case w228 => rfl); (case y228 => (intro w' hSw; (try dsimp only at hSw); go_simp; (try with_reducible rfl))); (try simp only [Act.put, s1, s2, s3]))
  (refine takeH (i := 5) (oi := ?o229) (v := ?v229) ?h229 (by kernel_rfl) ?q229 (Or.inl ⟨?w229, ?y229⟩) (by assumption) ?r229; (case h229 => ((simp only [g1, g2, g3]); rfl)); (case q229 => exact fun _ _ _ h => h); (case w229 => rfl); (case y229 => (intro w' hSw; (try dsimp only at hSw); go_simp; (try with_reducible rfl))); (try simp only [Act.put, s1, s2, s3]))
  (refine takeH (i := 6) (oi := ?o230) (v := ?v230) ?h230 (by kernel_rfl) ?q230 (Or.inl ⟨?w230, ?y230⟩) (by assumption) ?r230; (case h230 => ((simp only [g1, g2, g3]); rfl)); (case q230 => exact fun _ _ _ h => h); (case w230 => rfl); (case y230 => (intro w' hSw; (try dsimp only at hSw); go_simp; (try with_reducible rfl))); (try simp only [Act.put, s1, s2, s3]))
  (refine wpAnyH_ready (rs := [2]) (by kernel_rfl) (by simp) ?_; refine AllReadyH.cons (o := ?o231) ?h231 (fun K hK => ?s231) AllReadyH.nil; (case h231 => (first | ((simp only [g1, g2, g3]); rfl) | rfl)); (refine ldRowX rowGeom (.tmp 41) rfl (HRG.out _ _ (HB2.out.kp (show Kp w2 _ from (by (repeat (first | with_reducible assumption | with_reducible exact Kp.refl _ | with_reducible refine Kp.drew ?_ | with_reducible refine Kp.drewN ?_ _ | with_reducible refine Kp.alloc ?_ _ | ((with_reducible refine Kp.setCell ?_ ?_ _); rotate_left; (focus (first | omega | (simp; done) | (simp; omega)))) | with_reducible refine Kp.trans ?_ (by assumption))))))) HGL.out rfl ?_); refine hK.out _ _ ?_ (fun hHd => ?_); (focus ((try dsimp only); exact hHd)); clear hK K; (try simp only [Act.put]))
  (refine wpAnyH_ready (rs := [7]) (by kernel_rfl) (by simp) ?_; refine AllReadyH.cons (o := ?o233) ?h233 (fun K hK => ?s233) AllReadyH.nil; (case h233 => (first | ((simp only [g1, g2, g3]); rfl) | rfl)); (go_simp; go_at_call 69; refine (SG.out _).mono ?_; rintro e w3 ⟨rfl, kk⟩; (try dsimp only); have k23 : Kp w2 w3 := (show Kp w2 _ from (by (repeat (first | with_reducible assumption | with_reducible exact Kp.refl _ | with_reducible refine Kp.drew ?_ | with_reducible refine Kp.drewN ?_ _ | with_reducible refine Kp.alloc ?_ _ | ((with_reducible refine Kp.setCell ?_ ?_ _); rotate_left; (focus (first | omega | (simp; done) | (simp; omega)))) | with_reducible refine Kp.trans ?_ (by assumption))))).trans kk; have hB3 := HB2.out.kp k23); refine hK.out _ _ ?_ (fun hHd => ?_); (focus ((try dsimp only); exact (k23.cell (p := ⟨g, 0, none⟩) hg2).trans e2)); clear hK K; (try simp only [Act.put]))
  (refine takeH (i := 8) (oi := ?o235) (v := ?v235) ?h235 (by kernel_rfl) ?q235 (Or.inl ⟨?w235, ?y235⟩) (by assumption) ?r235; (case h235 => ((simp only [g1, g2, g3]); rfl)); (case q235 => exact fun _ _ _ h => h); (case w235 => rfl); (case y235 => (intro w' hSw; (try dsimp only at hSw); go_simp; (try with_reducible rfl))); (try simp only [Act.put, s1, s2, s3]))
  (refine takeH (i := 9) (oi := ?o236) (v := ?v236) ?h236 (by kernel_rfl) ?q236 (Or.inl ⟨?w236, ?y236⟩) (by assumption) ?r236; (case h236 => ((simp only [g1, g2, g3]); rfl)); (case q236 => exact fun _ _ _ h => h); (case w236 => rfl); (case y236 => (intro w' hSw; (try dsimp only at hSw); go_simp; (try with_reducible rfl))); (try simp only [Act.put, s1, s2, s3]))
  (refine wpAnyH_ready (rs := [10]) (by kernel_rfl) (by simp) ?_; refine AllReadyH.cons (o := ?o237) ?h237 (fun K hK => ?s237) AllReadyH.nil; (case h237 => (first | ((simp only [g1, g2, g3]); rfl) | rfl)); (refine stRowAtX rowGeom (.tmp 49) (.tmp 47) rfl hB3 (by rw [HX24.out]; decide) HGS.out HG1.out rfl rfl ?_; intro w4 hb4 hoth4 hkp4 hsz4; rw [HTS.out, HXS.out] at hb4); refine hK.out _ _ ?_ (fun hHd => ?_); (focus ((try dsimp only); exact (cell_heap ((hoth4 (by omega) ((HGW.out.kp kw2).kp k23)).heap.trans ((HGW.out.kp kw2).kp k23).heap.symm) 0).trans ((k23.cell (p := ⟨g, 0, none⟩) hg2).trans e2))); clear hK K; (try simp only [Act.put]))
  refine wpAnyH_done (by kernel_rfl) ?_ _
  all_goals
    have hr4 := hoth4 (by omega) (HR2.out.kp k23)
    have k4 : Kp w w4 := hkp4 (Nat.le_refl _) (kw2.trans k23)
    clear hHd hB3 hoth4 hkp4 hsz4
    go_wp2_with (first
      | (refine ldRowAt rowJob rfl (.tmp 50) rfl (vs := M) (stepL_range hb4) HM.out rfl ?_)
      | (refine bdRow3 rfl 54 0 (.tmp 51) 1 (.tmp 52) 2 (.const (.bool true)) rfl rfl rfl rfl HBD.out ?_)
      | (refine stRowW (vs := R) rowStep rfl (.tmp 6) (.tmp 53) rfl hr4 stepZ_len HRL.out HRO.out rfl rfl ?_; intro w5 hb5 hoth5 hkp5 hsz5))
    refine bodyPost_ret (ret_cellRow rowStep Tryz.results28 HRL.out rfl hb5) rfl ?_
    exact ⟨rfl, hkp5 (Nat.le_of_lt hlt) k4⟩
end Go.Proofs.YtaekeogaakogbaaGreatDoor
