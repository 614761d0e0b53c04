/- The document's parts of a line (tympanref43). -/
import Derived.Test.YtaekeogaakogbaaGreatDoorK1

namespace Go.Proofs.YtaekeogaakogbaaGreatDoor

open Go.ChangeShapes Go.WideShapes Go.ChangeAt Go.RowKit Go.Shelf

/-- What the document parses of a line. -/
def PartsEnd (s : List UInt8) (w : World) (e : Ending) (w' : World) : Prop := Kp w w' ∧
  ((∃ wd ns a c, parseP s = some (wd, ns) ∧ e = .returned (.agg #[sv wd, .slice a ns.length c, .bool true]) ∧ Row w' w.heap.size 2 1 enc1 (.slice a ns.length c) ns ∧ ns.length ≤ 10000) ∨
   (parseP s = none ∧ e = .returned (.agg #[sv [], .slice none 0 0, .bool false])))
set_option maxRecDepth 100000 in
set_option maxHeartbeats 8000000 in
theorem parts43_any (s : List UInt8) (hs : s.length ≤ 10000) (w : World) : Calls Tryz.prog 26 #[sv s] w (PartsEnd s w) := by
  obtain ⟨w0, ws, hsp⟩ := List.exists_cons_of_ne_nil (splitW_ne s)
  have hlen := splitW_len s
  have HSH := Lib.hid (fun x hx => splitW_short (s := s) (x := x) hx)
  have CW := Lib.hid (words_any s hs)
  have hpp : parseP s = (ws.mapM canon).map fun ns => (w0, ns) := by unfold parseP; rw [hsp]
  rw [hsp] at hlen HSH CW
  rw [List.length_cons] at hlen
  have HPP := Lib.hid hpp
  clear hsp hpp
  go_enter Tryz.func26, Tryz.ntmps26
  go_wp2_with fail
  refine (CW.out _).mono ?_
  rintro e w1 ⟨v1, rfl, hr1, k1⟩
  have rk : Blk w1 w.heap.size [sv [], .slice none 0 0, .bool false] 85 := Blk.kp (show Blk _ w.heap.size [sv [], .slice none 0 0, .bool false] 85 from (by (repeat (first | with_reducible assumption | ((with_reducible refine Blk.newL ?_ ?_); (focus (first | (simp; done) | omega)); rfl) | with_reducible refine Blk.drew ?_ | with_reducible refine Blk.drewN ?_ _ | with_reducible refine Blk.alloc ?_ _ | ((with_reducible refine Blk.other ?_ ?_ _); rotate_left; (focus (first | with_reducible assumption | omega | (simp; done) | (simp; omega)))))))) k1
  have kw1 : Kp w w1 := (show Kp w _ from (by (repeat (first | with_reducible assumption | with_reducible exact Kp.refl _ | with_reducible refine Kp.drew ?_ | with_reducible refine Kp.drewN ?_ _ | with_reducible refine Kp.alloc ?_ _ | ((with_reducible refine Kp.setCell ?_ ?_ _); rotate_left; (focus (first | omega | (simp; done) | (simp; omega)))) | with_reducible refine Kp.trans ?_ (by assumption))))).trans k1
  obtain ⟨a1, c1, rfl, s1'⟩ := hr1.sl (fun _ => rfl)
  have m1 := s1'.2.1
  have m2 := s1'.2.2.1
  unfold maxLen at m2
  obtain ⟨ga, go, rfl, hga, r1⟩ : ∃ b off, a1 = some ⟨b, off, none⟩ ∧ b < w1.heap.size ∧ RowAt w1 1 encS b off (w0 :: ws) := by
    rcases s1'.2.2.2 with e | ⟨b, off, e, h1, h2⟩
    · simp at e
    · exact ⟨b, off, e, h1, h2⟩
  have HC : Hid (∀ (i : Nat) x, (w0 :: ws)[i]? = some x → w1.cell? ⟨ga, go + i, none⟩ = some (sv x)) := Lib.hid fun i x hi => by
    have := r1 i x hi 0 _ rfl
    simpa only [Nat.add_zero, Nat.mul_one] using this
  have d0 := HC.out 0 w0 rfl
  rw [Nat.add_zero] at d0
  have hll : (w0 :: ws).length = ws.length + 1 := List.length_cons
  rw [hll] at m1 ⊢
  have hrkl := rk.lt
  clear hr1 s1' r1 CW hll
  go_wp2_with fail
  go_loopw [5] (fun v5 wr => ∃ (k : Nat) (ns : List Int) (a : Option Addr) (c : Nat), k ≤ ws.length ∧ v5 = .int .i64 ((k : Int) + 1) ∧ (ws.take k).mapM canon = some ns ∧ ns.length = k ∧ Row wr (w1.heap.size + 1) 2 1 enc1 (.slice a ns.length c) ns ∧ Blk wr w.heap.size [sv [], .slice none 0 0, .bool false] 85 ∧ Blk wr w1.heap.size [sv w0, .slice a ns.length c, .bool true] 85 ∧ Kp w1 wr) (fun v5 _ => ws.length + 1 - (intOf v5).toNat)
  case atStart => exact ⟨0, [], none, 0, Nat.zero_le _, rfl, rfl, rfl, Row.nil _ _ _ _ _, (by (repeat (first | with_reducible assumption | ((with_reducible refine Blk.newL ?_ ?_); (focus (first | (simp; done) | omega)); rfl) | with_reducible refine Blk.drew ?_ | with_reducible refine Blk.drewN ?_ _ | with_reducible refine Blk.alloc ?_ _ | ((with_reducible refine Blk.other ?_ ?_ _); rotate_left; (focus (first | with_reducible assumption | omega | (simp; done) | (simp; omega))))))), (by (repeat (first | with_reducible assumption | ((with_reducible refine Blk.newL ?_ ?_); (focus (first | (simp; done) | omega)); rfl) | with_reducible refine Blk.drew ?_ | with_reducible refine Blk.drewN ?_ _ | with_reducible refine Blk.alloc ?_ _ | ((with_reducible refine Blk.other ?_ ?_ _); rotate_left; (focus (first | with_reducible assumption | omega | (simp; done) | (simp; omega))))))), (by (repeat (first | with_reducible assumption | with_reducible exact Kp.refl _ | with_reducible refine Kp.drew ?_ | with_reducible refine Kp.drewN ?_ _ | with_reducible refine Kp.alloc ?_ _ | ((with_reducible refine Kp.setCell ?_ ?_ _); rotate_left; (focus (first | omega | (simp; done) | (simp; omega)))) | with_reducible refine Kp.trans ?_ (by assumption))))⟩
  case round =>
    obtain ⟨k, ns, a, c, hk, rfl, hns, hnl, xr, xres, xout, xk⟩ := hrel
    have HNL := Lib.hid hnl
    have hnl2 : ns.length ≤ 10000 := by omega
    clear hnl
    have y0 := xout.cell 0 rfl
    have y1 := xout.cell 1 rfl
    have y2 := xout.cell 2 rfl
    have xoutl := xout.lt
    have xresl := xres.lt
    by_cases hlt : k < ws.length
    · obtain ⟨x, hx⟩ : ∃ x, ws[k]? = some x := ⟨ws[k], List.getElem?_eq_getElem hlt⟩
      have hxs := HSH.out x (List.mem_cons_of_mem _ (List.mem_of_getElem? hx))
      have dk := (xk.cell (p := ⟨ga, go + (k + 1), none⟩) hga).trans (HC.out (k + 1) x (by rw [List.getElem?_cons_succ]; exact hx))
      have ji : decide ((k : Int) + 1 < (ws.length : Int) + 1) = true := decide_eq_true (by omega)
      have ji' : decide (k + 1 < ws.length + 1) = true := decide_eq_true (by omega)
      have CV := Lib.hid (fun w' => val43_any x (by omega) w')
      have XR := Lib.hid xr
      have XRES := Lib.hid xres
      have XOUT := Lib.hid xout
      have HSN : Hid (∀ v, canon x = some v → (ws.take (k + 1)).mapM canon = some (ns ++ [v])) := Lib.hid fun v hv => mapM_snoc hx hns hv
      have HNO : Hid (canon x = none → parseP s = none) := Lib.hid fun hv => by rw [HPP.out, mapM_none hx hv]; rfl
      clear hns hx xr xres xout
      go_wp2_with fail
      refine (CV.out _).mono ?_
      rintro e w3 ⟨k3, hv⟩
      have kr3 : Kp wr w3 := k3
      have xres3 := XRES.out.kp kr3
      have xout3 := XOUT.out.kp kr3
      have xr3 := XR.out.kp kr3
      have kw3 := xk.trans kr3
      rcases hv with ⟨n, v, hcan, rfl, hrv⟩ | ⟨hcan, am, mm, cm, rfl⟩
      · obtain ⟨av, cv, rfl, -⟩ := hrv.sl (fun _ => rfl)
        have hvi := canon_i64 hcan
        have HSN1 := Lib.hid (HSN.out n hcan)
        have hw3 := kw3.size
        obtain ⟨g, rfl, hg3, -, -, -, hcell, -⟩ := int_row hrv (by simp)
        have dv := hcell 0 n rfl
        have hgr := (hrv.lt g rfl).1
        have XRES3 := Lib.hid xres3
        have XOUT3 := Lib.hid xout3
        have XR3 := Lib.hid xr3
        have HRW := Lib.hid XR.out.lt
        clear CV XR XRES XOUT hcan xout3 xr3 y0 y1 y2 xres3 hrv hcell HSN HNO
        go_wp2_with (first
          | (refine stRowW (vs := [sv [], .slice (some ⟨g, 0, none⟩) [n].length cv, .bool true]) rowParts rfl (.tmp 6) (.tmp 23) rfl (show Blk _ w3.heap.size [sv [], .slice none 0 0, .bool false] 85 from (by (repeat (first | with_reducible assumption | ((with_reducible refine Blk.newL ?_ ?_); (focus (first | (simp; done) | omega)); rfl) | with_reducible refine Blk.drew ?_ | with_reducible refine Blk.drewN ?_ _ | with_reducible refine Blk.alloc ?_ _ | ((with_reducible refine Blk.other ?_ ?_ _); rotate_left; (focus (first | with_reducible assumption | omega | (simp; done) | (simp; omega)))))))) rfl rfl (by simp [Value.oneCell']) rfl rfl ?_; intro w5 hb5 hoth5 hkp5 hsz5; have t2 := hb5.cell 2 rfl))
        have t1 := hb5.cell 1 rfl
        have k35 : Kp w3 w5 := hkp5 (Nat.le_refl _) ((Kp.refl w3).alloc _)
        have k15 : Kp w1 w5 := kw3.trans k35
        have dv5 := (k35.cell (p := ⟨g, 0, none⟩) hg3).trans dv
        have hg5 : g < w5.heap.size := Nat.lt_of_lt_of_le hg3 k35.size
        have hv5 := hb5.lt
        have XR5 := Lib.hid (XR3.out.kp k35)
        have XOUT5 := Lib.hid (XOUT3.out.kp k35)
        have XRES5 := Lib.hid (XRES3.out.kp k35)
        have y1 := XOUT5.out.cell 1 rfl
        have ho5 := XOUT5.out.lt
        have hw5 := k15.size
        have hr3 := kr3.size
        have HRO : Hid (∀ b, (Value.slice a ns.length c).ownBlock = some b → w1.heap.size + 1 ≤ b ∧ b < wr.heap.size) := Lib.hid fun b hb => HRW.out b hb
        have HNO : Hid (w1.heap.size + 1 ≤ w5.heap.size) := Lib.hid ho5
        clear dv k3 kr3 k1 hsz5
        (refine wp_region_held_drew (S := (fun w' => w5.heap.size ≤ w'.heap.size ∧ w'.cell? ⟨w3.heap.size, 1, none⟩ = some (.slice (some ⟨g, 0, none⟩) [n].length cv) ∧ w'.cell? ⟨g, 0, none⟩ = some (.int .i64 n))) (by kernel_rfl) ?_ (fun hHd => ?_); (focus ((try dsimp only); exact ⟨Nat.le_refl _, t1, dv5⟩)))
        (refine takeH (i := 0) (oi := ?o155) (v := ?v155) ?h155 (by kernel_rfl) ?q155 (Or.inl ⟨?w155, ?y155⟩) (by assumption) ?r155; (case h155 => ((simp only [g1, g3]); rfl)); (case q155 => exact fun _ _ _ h => h); (case w155 => rfl); (case y155 => (intro w' hSw; (try dsimp only at hSw); go_simp; (try with_reducible rfl))); (try simp only [Act.put, s1, s2, s3]))
        (refine takeH (i := 2) (oi := ?o156) (v := ?v156) ?h156 (by kernel_rfl) ?q156 (Or.inl ⟨?w156, ?y156⟩) (by assumption) ?r156; (case h156 => ((simp only [g1, g2, g3]); rfl)); (case q156 => exact fun _ _ _ h => h); (case w156 => rfl); (case y156 => (intro w' hSw; (try dsimp only at hSw); go_simp; (try with_reducible rfl))); (try simp only [Act.put, s1, s2, s3]))
        (refine takeH (i := 3) (oi := ?o157) (v := ?v157) ?h157 (by kernel_rfl) ?q157 (Or.inl ⟨?w157, ?y157⟩) (by assumption) ?r157; (case h157 => ((simp only [g1, g2, g3]); rfl)); (case q157 => exact fun _ _ _ h => h); (case w157 => rfl); (case y157 => (intro w' hSw; (try dsimp only at hSw); go_simp; (try with_reducible rfl))); (try simp only [Act.put, s1, s2, s3]))
        (refine takeH (i := 4) (oi := ?o158) (v := ?v158) ?h158 (by kernel_rfl) ?q158 (Or.inl ⟨?w158, ?y158⟩) (by assumption) ?r158; (case h158 => ((simp only [g1, g2, g3]); rfl)); (case q158 => exact fun _ _ _ h => h); (case w158 => rfl); (case y158 => (intro w' hSw; (try dsimp only at hSw); go_simp; (try with_reducible rfl))); (try simp only [Act.put, s1, s2, s3]))
        (refine takeH (i := 5) (oi := ?o159) (v := ?v159) ?h159 (by kernel_rfl) ?q159 (Or.inl ⟨?w159, ?y159⟩) (by assumption) ?r159; (case h159 => ((simp only [g1, g2, g3]); rfl)); (case q159 => exact fun _ _ _ h => h); (case w159 => rfl); (case y159 => (intro w' hSw; (try dsimp only at hSw); go_simp; (try with_reducible rfl))); (try simp only [Act.put, s1, s2, s3]))
        (refine wpAnyH_ready (rs := [1, 6]) (by kernel_rfl) (by simp) ?_; refine (AllReadyH.cons (o := ?o160) ?h160 (fun K hK => ?s160) (AllReadyH.cons (o := ?o161) ?h161 (fun K hK => ?s161) AllReadyH.nil)); (case h160 => (first | ((simp only [g1, g2, g3]); rfl) | rfl)); (case h161 => (first | ((simp only [g1, g2, g3]); rfl) | rfl)))
        (go_simp; (try dsimp only); refine hK.out _ _ ?_ (fun hHd => ?_); (focus ((try dsimp only); exact hHd)); clear hK K; (try simp only [Act.put, s1, s2, s3]))
        (refine wpAnyH_ready (rs := [6]) (by kernel_rfl) (by simp) ?_; refine AllReadyH.cons (o := ?o162) ?h162 (fun K hK => ?s162) AllReadyH.nil; (case h162 => (first | ((simp only [g1, g2, g3]); rfl) | rfl)); go_simp; (try dsimp only); refine hK.out _ _ ?_ (fun hHd => ?_); (focus ((try dsimp only); exact ⟨(show Kp w5 _ from (by (repeat (first | with_reducible assumption | with_reducible exact Kp.refl _ | with_reducible refine Kp.drew ?_ | with_reducible refine Kp.drewN ?_ _ | with_reducible refine Kp.alloc ?_ _ | ((with_reducible refine Kp.setCell ?_ ?_ _); rotate_left; (focus (first | omega | (simp; done) | (simp; omega)))) | with_reducible refine Kp.trans ?_ (by assumption))))).size, ((show Kp w5 _ from (by (repeat (first | with_reducible assumption | with_reducible exact Kp.refl _ | with_reducible refine Kp.drew ?_ | with_reducible refine Kp.drewN ?_ _ | with_reducible refine Kp.alloc ?_ _ | ((with_reducible refine Kp.setCell ?_ ?_ _); rotate_left; (focus (first | omega | (simp; done) | (simp; omega)))) | with_reducible refine Kp.trans ?_ (by assumption))))).cell (p := ⟨w3.heap.size, 1, none⟩) hv5).trans t1, ((show Kp w5 _ from (by (repeat (first | with_reducible assumption | with_reducible exact Kp.refl _ | with_reducible refine Kp.drew ?_ | with_reducible refine Kp.drewN ?_ _ | with_reducible refine Kp.alloc ?_ _ | ((with_reducible refine Kp.setCell ?_ ?_ _); rotate_left; (focus (first | omega | (simp; done) | (simp; omega)))) | with_reducible refine Kp.trans ?_ (by assumption))))).cell (p := ⟨g, 0, none⟩) hg5).trans dv5⟩)); clear hK K; (try simp only [Act.put, s1, s2, s3]))
        (refine wpAnyH_ready (rs := [7]) (by kernel_rfl) (by simp) ?_; refine AllReadyH.cons (o := ?o163) ?h163 (fun K hK => ?s163) AllReadyH.nil; (case h163 => (first | ((simp only [g1, g2, g3]); rfl) | rfl)); (refine rowAppendX (.tmp 29) (.tmp 34) 72 ?ho164 Tryz.underlying72 infoI64 rfl (by decide) (XR5.out.kp (show Kp w5 _ from (by (repeat (first | with_reducible assumption | with_reducible exact Kp.refl _ | with_reducible refine Kp.drew ?_ | with_reducible refine Kp.drewN ?_ _ | with_reducible refine Kp.alloc ?_ _ | ((with_reducible refine Kp.setCell ?_ ?_ _); rotate_left; (focus (first | omega | (simp; done) | (simp; omega)))) | with_reducible refine Kp.trans ?_ (by assumption)))))) ?hs164 (y := n) rfl (numOne n) (show Blk _ w5.heap.size (enc1 n) 2 from (by (repeat (first | with_reducible assumption | ((with_reducible refine Blk.newL ?_ ?_); (focus (first | (simp; done) | omega)); rfl) | with_reducible refine Blk.drew ?_ | with_reducible refine Blk.drewN ?_ _ | with_reducible refine Blk.alloc ?_ _ | ((with_reducible refine Blk.other ?_ ?_ _); rotate_left; (focus (first | with_reducible assumption | omega | (simp; done) | (simp; omega)))))))) ?hx164 ?hl164 ?hb164 ?hz164 ?_; (case ho164 => rfl); (case hs164 => rfl); (case hx164 => rfl); (case hl164 => unfold maxLen; omega); (case hb164 => omega); (case hz164 => exact Nat.le_trans HNO.out (show Kp w5 _ from (by (repeat (first | with_reducible assumption | with_reducible exact Kp.refl _ | with_reducible refine Kp.drew ?_ | with_reducible refine Kp.drewN ?_ _ | with_reducible refine Kp.alloc ?_ _ | ((with_reducible refine Kp.setCell ?_ ?_ _); rotate_left; (focus (first | omega | (simp; done) | (simp; omega)))) | with_reducible refine Kp.trans ?_ (by assumption))))).size); intro v' w6 hr' hgb hloc; obtain ⟨a6, c6, rfl, _⟩ := hr'.sl (fun _ => rfl); have hg6 : w5.grownBy w6 (Value.slice a ns.length c).ownBlock := grown_trans (show Kp w5 _ from (by (repeat (first | with_reducible assumption | with_reducible exact Kp.refl _ | with_reducible refine Kp.drew ?_ | with_reducible refine Kp.drewN ?_ _ | with_reducible refine Kp.alloc ?_ _ | ((with_reducible refine Kp.setCell ?_ ?_ _); rotate_left; (focus (first | omega | (simp; done) | (simp; omega)))) | with_reducible refine Kp.trans ?_ (by assumption))))).grownBy hgb; have hgs := hg6.size; have hkv : w6.heap[w3.heap.size]? = w5.heap[w3.heap.size]? := hg6.block _ hv5 (fun e => by have := HRO.out _ e.symm; omega); have hkg : w6.heap[g]? = w5.heap[g]? := hg6.block _ hg5 (fun e => by have := HRO.out _ e.symm; omega); have hB6 := XOUT5.out.grown1 hg6 (fun e => by have := HRO.out _ e; omega); have e1 := hB6.cell 1 rfl; have f1 := hB6.free 1); refine hK.out _ _ ?_ (fun hHd => ?_); (focus ((try dsimp only); exact ⟨hgs, (cell_heap hkv _).trans t1, (cell_heap hkg _).trans dv5⟩)); clear hK K; (try simp only [Act.put]))
        (refine takeH (i := 8) (oi := ?o165) (v := ?v165) ?h165 (by kernel_rfl) ?q165 (Or.inl ⟨?w165, ?y165⟩) (by assumption) ?r165; (case h165 => ((simp only [g1, g2, g3]); rfl)); (case q165 => exact fun _ _ _ h => h); (case w165 => rfl); (case y165 => (intro w' hSw; (try dsimp only at hSw); go_simp; (try with_reducible rfl))); (try simp only [Act.put, s1, s2, s3]))
        (refine wpAnyH_ready (rs := [9]) (by kernel_rfl) (by simp) ?_; refine AllReadyH.cons (o := ?o166) ?h166 (fun K hK => ?s166) AllReadyH.nil; (case h166 => (first | ((simp only [g1, g2, g3]); rfl) | rfl)); go_simp; (try dsimp only); refine hK.out _ _ ?_ (fun hHd => ?_); (focus ((try dsimp only); exact ⟨by simpa using hgs, (cell_heap (Below.heap_setCell _ _ _ _ (fun e => by have e' : w3.heap.size = w1.heap.size := e; omega)) _).trans ((cell_heap hkv _).trans t1), (cell_heap (Below.heap_setCell _ _ _ _ (fun e => by have e' : g = w1.heap.size := e; omega)) _).trans ((cell_heap hkg _).trans dv5)⟩)); clear hK K; (try simp only [Act.put, s1, s2, s3]))
        refine wpAnyH_done (by kernel_rfl) ?_ _
        rotate_left
        (go_simp; (try dsimp only); refine hK.out _ _ ?_ (fun hHd => ?_); (focus ((try dsimp only); exact ⟨(show Kp w5 _ from (by (repeat (first | with_reducible assumption | with_reducible exact Kp.refl _ | with_reducible refine Kp.drew ?_ | with_reducible refine Kp.drewN ?_ _ | with_reducible refine Kp.alloc ?_ _ | ((with_reducible refine Kp.setCell ?_ ?_ _); rotate_left; (focus (first | omega | (simp; done) | (simp; omega)))) | with_reducible refine Kp.trans ?_ (by assumption))))).size, ((show Kp w5 _ from (by (repeat (first | with_reducible assumption | with_reducible exact Kp.refl _ | with_reducible refine Kp.drew ?_ | with_reducible refine Kp.drewN ?_ _ | with_reducible refine Kp.alloc ?_ _ | ((with_reducible refine Kp.setCell ?_ ?_ _); rotate_left; (focus (first | omega | (simp; done) | (simp; omega)))) | with_reducible refine Kp.trans ?_ (by assumption))))).cell (p := ⟨w3.heap.size, 1, none⟩) hv5).trans t1, ((show Kp w5 _ from (by (repeat (first | with_reducible assumption | with_reducible exact Kp.refl _ | with_reducible refine Kp.drew ?_ | with_reducible refine Kp.drewN ?_ _ | with_reducible refine Kp.alloc ?_ _ | ((with_reducible refine Kp.setCell ?_ ?_ _); rotate_left; (focus (first | omega | (simp; done) | (simp; omega)))) | with_reducible refine Kp.trans ?_ (by assumption))))).cell (p := ⟨g, 0, none⟩) hg5).trans dv5⟩)); clear hK K; (try simp only [Act.put, s1, s2, s3]))
        (refine wpAnyH_ready (rs := [1]) (by kernel_rfl) (by simp) ?_; refine AllReadyH.cons (o := ?o167) ?h167 (fun K hK => ?s167) AllReadyH.nil; (case h167 => (first | ((simp only [g1, g2, g3]); rfl) | rfl)); go_simp; (try dsimp only); refine hK.out _ _ ?_ (fun hHd => ?_); (focus ((try dsimp only); exact hHd)); clear hK K; (try simp only [Act.put, s1, s2, s3]))
        (refine wpAnyH_ready (rs := [7]) (by kernel_rfl) (by simp) ?_; refine AllReadyH.cons (o := ?o168) ?h168 (fun K hK => ?s168) AllReadyH.nil; (case h168 => (first | ((simp only [g1, g2, g3]); rfl) | rfl)); (refine rowAppendX (.tmp 29) (.tmp 34) 72 ?ho169 Tryz.underlying72 infoI64 rfl (by decide) (XR5.out.kp (show Kp w5 _ from (by (repeat (first | with_reducible assumption | with_reducible exact Kp.refl _ | with_reducible refine Kp.drew ?_ | with_reducible refine Kp.drewN ?_ _ | with_reducible refine Kp.alloc ?_ _ | ((with_reducible refine Kp.setCell ?_ ?_ _); rotate_left; (focus (first | omega | (simp; done) | (simp; omega)))) | with_reducible refine Kp.trans ?_ (by assumption)))))) ?hs169 (y := n) rfl (numOne n) (show Blk _ w5.heap.size (enc1 n) 2 from (by (repeat (first | with_reducible assumption | ((with_reducible refine Blk.newL ?_ ?_); (focus (first | (simp; done) | omega)); rfl) | with_reducible refine Blk.drew ?_ | with_reducible refine Blk.drewN ?_ _ | with_reducible refine Blk.alloc ?_ _ | ((with_reducible refine Blk.other ?_ ?_ _); rotate_left; (focus (first | with_reducible assumption | omega | (simp; done) | (simp; omega)))))))) ?hx169 ?hl169 ?hb169 ?hz169 ?_; (case ho169 => rfl); (case hs169 => rfl); (case hx169 => rfl); (case hl169 => unfold maxLen; omega); (case hb169 => omega); (case hz169 => exact Nat.le_trans HNO.out (show Kp w5 _ from (by (repeat (first | with_reducible assumption | with_reducible exact Kp.refl _ | with_reducible refine Kp.drew ?_ | with_reducible refine Kp.drewN ?_ _ | with_reducible refine Kp.alloc ?_ _ | ((with_reducible refine Kp.setCell ?_ ?_ _); rotate_left; (focus (first | omega | (simp; done) | (simp; omega)))) | with_reducible refine Kp.trans ?_ (by assumption))))).size); intro v' w6 hr' hgb hloc; obtain ⟨a6, c6, rfl, _⟩ := hr'.sl (fun _ => rfl); have hg6 : w5.grownBy w6 (Value.slice a ns.length c).ownBlock := grown_trans (show Kp w5 _ from (by (repeat (first | with_reducible assumption | with_reducible exact Kp.refl _ | with_reducible refine Kp.drew ?_ | with_reducible refine Kp.drewN ?_ _ | with_reducible refine Kp.alloc ?_ _ | ((with_reducible refine Kp.setCell ?_ ?_ _); rotate_left; (focus (first | omega | (simp; done) | (simp; omega)))) | with_reducible refine Kp.trans ?_ (by assumption))))).grownBy hgb; have hgs := hg6.size; have hkv : w6.heap[w3.heap.size]? = w5.heap[w3.heap.size]? := hg6.block _ hv5 (fun e => by have := HRO.out _ e.symm; omega); have hkg : w6.heap[g]? = w5.heap[g]? := hg6.block _ hg5 (fun e => by have := HRO.out _ e.symm; omega); have hB6 := XOUT5.out.grown1 hg6 (fun e => by have := HRO.out _ e; omega); have e1 := hB6.cell 1 rfl; have f1 := hB6.free 1); refine hK.out _ _ ?_ (fun hHd => ?_); (focus ((try dsimp only); exact ⟨hgs, (cell_heap hkv _).trans t1, (cell_heap hkg _).trans dv5⟩)); clear hK K; (try simp only [Act.put]))
        (refine takeH (i := 8) (oi := ?o170) (v := ?v170) ?h170 (by kernel_rfl) ?q170 (Or.inl ⟨?w170, ?y170⟩) (by assumption) ?r170; (case h170 => ((simp only [g1, g2, g3]); rfl)); (case q170 => exact fun _ _ _ h => h); (case w170 => rfl); (case y170 => (intro w' hSw; (try dsimp only at hSw); go_simp; (try with_reducible rfl))); (try simp only [Act.put, s1, s2, s3]))
        (refine wpAnyH_ready (rs := [9]) (by kernel_rfl) (by simp) ?_; refine AllReadyH.cons (o := ?o171) ?h171 (fun K hK => ?s171) AllReadyH.nil; (case h171 => (first | ((simp only [g1, g2, g3]); rfl) | rfl)); go_simp; (try dsimp only); refine hK.out _ _ ?_ (fun hHd => ?_); (focus ((try dsimp only); exact ⟨by simpa using hgs, (cell_heap (Below.heap_setCell _ _ _ _ (fun e => by have e' : w3.heap.size = w1.heap.size := e; omega)) _).trans ((cell_heap hkv _).trans t1), (cell_heap (Below.heap_setCell _ _ _ _ (fun e => by have e' : g = w1.heap.size := e; omega)) _).trans ((cell_heap hkg _).trans dv5)⟩)); clear hK K; (try simp only [Act.put, s1, s2, s3]))
        refine wpAnyH_done (by kernel_rfl) ?_ _
        rotate_left
        all_goals
          have k6 : Kp w1 w6 := k15.grown1 hg6 fun b hb => by have := HRO.out b hb; omega
          have hres6 := XRES5.out.grown1 hg6 (fun e => by have := HRO.out _ e; omega)
          have hB7 := hB6.set 1 (.slice a6 (ns ++ [n]).length c6)
          have hr7 := row_away hr' hB6 (by decide) 1 (.slice a6 (ns ++ [n]).length c6)
          have hres7 := hres6.other (a := ⟨w1.heap.size, 1, none⟩) (by show w.heap.size ≠ w1.heap.size; omega) (.slice a6 (ns ++ [n]).length c6)
          clear hHd
          go_wp2_with fail
          go_roundw
          case rel =>
            have hLL : (ns ++ [n]).length = ns.length + 1 := by simp
            rw [hLL] at hr7 hres7 hB7
            exact ⟨k + 1, ns ++ [n], a6, c6, by omega, by go_num, HSN1.out, by rw [List.length_append, HNL.out]; rfl, by rw [hLL]; exact hr7, hres7, by rw [hLL]; exact hB7, k6.setCell (p := ⟨w1.heap.size, 1, none⟩) (Nat.le_refl _) _⟩
          case measure => simp [intOf]; omega
      · have HPN := Lib.hid (HNO.out hcan)
        have zl := xres3.lt
        have XRES3 := Lib.hid xres3
        clear CV XR XRES XOUT hcan xout3 xr3 y0 y1 y2 xres3
        go_wp2_with (first
          | (refine stRowW (vs := [sv [], .slice am mm cm, .bool false]) rowParts rfl (.tmp 6) (.tmp 23) rfl (show Blk _ w3.heap.size [sv [], .slice none 0 0, .bool false] 85 from (by (repeat (first | with_reducible assumption | ((with_reducible refine Blk.newL ?_ ?_); (focus (first | (simp; done) | omega)); rfl) | with_reducible refine Blk.drew ?_ | with_reducible refine Blk.drewN ?_ _ | with_reducible refine Blk.alloc ?_ _ | ((with_reducible refine Blk.other ?_ ?_ _); rotate_left; (focus (first | with_reducible assumption | omega | (simp; done) | (simp; omega)))))))) rfl rfl (by simp [Value.oneCell']) rfl rfl ?_; intro w5 hb5 hoth5 hkp5 hsz5; have t2 := hb5.cell 2 rfl; have xres5 := hoth5 (by omega) (XRES3.out.alloc _); have z0 := xres5.cell 0 rfl; have z1 := xres5.cell 1 rfl; have z2 := xres5.cell 2 rfl; have f0 := xres5.free 0; have f1 := xres5.free 1; have f2 := xres5.free 2; have k5 : Kp w w5 := hkp5 (Nat.le_trans kw1.size kw3.size) (show Kp w _ from (kw1.trans kw3).alloc _)))
        have rr := ((xres5.set 0 (sv [])).set 1 (.slice none 0 0)).set 2 (.bool false)
        refine bodyPost_ret (ret_cellRow rowParts Tryz.results26 rfl rfl rr) rfl ?_
        exact ⟨(by (repeat (first | with_reducible assumption | with_reducible exact Kp.refl _ | with_reducible refine Kp.drew ?_ | with_reducible refine Kp.drewN ?_ _ | with_reducible refine Kp.alloc ?_ _ | ((with_reducible refine Kp.setCell ?_ ?_ _); rotate_left; (focus (first | omega | (simp; done) | (simp; omega)))) | with_reducible refine Kp.trans ?_ (by assumption)))), .inr ⟨HPN.out, rfl⟩⟩
    · obtain rfl : k = ws.length := by omega
      rw [List.take_length] at hns
      have hpk : parseP s = some (w0, ns) := by rw [HPP.out, hns]; rfl
      have HPK := Lib.hid hpk
      have ji : decide ((ws.length : Int) + 1 < (ws.length : Int) + 1) = false := decide_eq_false (by omega)
      have z0 := xres.cell 0 rfl
      have z1 := xres.cell 1 rfl
      have z2 := xres.cell 2 rfl
      have f0 := xres.free 0
      have f1 := xres.free 1
      have f2 := xres.free 2
      have XR := Lib.hid (xr.low (Nat.le_trans kw1.size (Nat.le_succ _)))
      clear xr hns hpk
      go_wp2_with fail
      have rr := ((xres.set 0 (sv w0)).set 1 (.slice a ns.length c)).set 2 (.bool true)
      refine bodyPost_ret (ret_cellRow rowParts Tryz.results26 rfl rfl rr) rfl ?_
      have hk2 := kw1.trans xk
      refine ⟨(by (repeat (first | with_reducible assumption | with_reducible exact Kp.refl _ | with_reducible refine Kp.drew ?_ | with_reducible refine Kp.drewN ?_ _ | with_reducible refine Kp.alloc ?_ _ | ((with_reducible refine Kp.setCell ?_ ?_ _); rotate_left; (focus (first | omega | (simp; done) | (simp; omega)))) | with_reducible refine Kp.trans ?_ (by assumption)))), .inl ⟨w0, ns, a, c, HPK.out, rfl, ?_, hnl2⟩⟩
      exact row_away (row_away (row_away XR.out xres (by decide) 0 _) (xres.set 0 _) (by decide) 1 _) ((xres.set 0 _).set 1 _) (by decide) 2 _
end Go.Proofs.YtaekeogaakogbaaGreatDoor
