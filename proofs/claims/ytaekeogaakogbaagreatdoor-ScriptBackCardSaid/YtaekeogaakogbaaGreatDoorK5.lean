/- The document's note of numbers (tympanref43). -/
import Derived.Test.YtaekeogaakogbaaGreatDoorK3

namespace Go.Proofs.YtaekeogaakogbaaGreatDoor

open Go.ChangeShapes Go.WideShapes Go.ChangeAt Go.RowKit Go.Shelf

theorem rowNote : RowT 47 2 := ⟨⟨_, Tryz.underlying47, rfl⟩, by kernel_rfl⟩
/-- Evens and odds of an odd number of first numbers. -/
theorem evens_two {l : List Int} {i : Nat} {x y : Int} (hi : i % 2 = 1) (hx : l[i]? = some x) (hy : l[i + 1]? = some y) : evens (l.take (i + 2)) = evens (l.take i) ++ [y] ∧ odds (l.take (i + 2)) = odds (l.take i) ++ [x] := by
  have h1 : l.take (i + 1) = l.take i ++ [x] := by rw [List.take_add_one, hx]; rfl
  have h2 : l.take (i + 2) = l.take (i + 1) ++ [y] := by rw [List.take_add_one (i := i + 1), hy]; rfl
  have l1 : (l.take i).length = i := by
    have := (List.getElem?_eq_some_iff.1 hx).1
    rw [List.length_take]; omega
  obtain ⟨e1, e2⟩ := (evens_snoc (l.take i) x).2 (by omega)
  obtain ⟨e3, e4⟩ := (evens_snoc (l.take i ++ [x]) y).1 (by rw [List.length_append, l1, List.length_singleton]; omega)
  rw [h2, h1, e3, e4, e1, e2]
  exact ⟨rfl, rfl⟩
theorem evens_first {l : List Int} {x : Int} (hx : l[0]? = some x) : evens (l.take 1) = [x] ∧ odds (l.take 1) = [] := by
  rcases l with _ | ⟨y, r⟩
  · cases hx
  · cases hx
    exact ⟨rfl, rfl⟩
set_option maxRecDepth 100000 in
set_option maxHeartbeats 8000000 in
theorem note43_any (B : Nat) (a : Option Addr) (c : Nat) (ns : List Int) (m : Nat) (hm : ns.length = 2 * m + 1) (hn1 : ns.length ≤ 10000) (w : World) (hr : Row w B 2 1 enc1 (.slice a ns.length c) ns) :
    Calls Tryz.prog 70 #[.slice a ns.length c] w fun e w' => Kp w w' ∧ ∃ la lc pa pc, e = .returned (.agg #[.slice la (evens ns).length lc, .slice pa (odds ns).length pc]) ∧ Row w' w.heap.size 23 1 enc1 (.slice la (evens ns).length lc) (evens ns) ∧ Row w' w.heap.size 3 1 enc1 (.slice pa (odds ns).length pc) (odds ns) := by
  obtain ⟨g, rfl, hg, -, hmc, hcm, hcell, -⟩ := int_row hr (by omega)
  have HCELL := Lib.hid hcell
  obtain ⟨x0, hx0⟩ : ∃ x, ns[0]? = some x := ⟨ns[0]'(by omega), List.getElem?_eq_getElem (by omega)⟩
  have d0 := hcell 0 x0 hx0
  have HX0 := Lib.hid (evens_first hx0)
  obtain ⟨N, hN⟩ : ∃ N, ns.length = N := ⟨_, rfl⟩
  rw [hN] at hmc hn1 hm ⊢
  have HNN := Lib.hid hN
  have HMM := Lib.hid hm
  have hpos : 0 < N := by omega
  clear hr hcell hx0 hN hm
  go_enter Tryz.func70, Tryz.ntmps70
  go_wp2_with fail
  go_loopw [4] (fun v4 wr => ∃ (i : Nat) (la pa : Option Addr) (lc pc : Nat), i % 2 = 1 ∧ i ≤ N ∧ v4 = .int .i64 (i : Int) ∧ Blk wr w.heap.size [.slice none 0 0, .slice none 0 0] 47 ∧ Blk wr (w.heap.size + 1 + 1) [.slice la (evens (ns.take i)).length lc, .slice pa (odds (ns.take i)).length pc] 47 ∧ Row wr (w.heap.size + 1) 23 1 enc1 (.slice la (evens (ns.take i)).length lc) (evens (ns.take i)) ∧ Row wr (w.heap.size + 1) 3 1 enc1 (.slice pa (odds (ns.take i)).length pc) (odds (ns.take i)) ∧ (∀ b, (Value.slice la (evens (ns.take i)).length lc).ownBlock = some b → b ≠ w.heap.size + 1 + 1) ∧ (∀ b, (Value.slice pa (odds (ns.take i)).length pc).ownBlock = some b → b ≠ w.heap.size + 1 + 1) ∧ Kp w wr) (fun v4 _ => N + 1 - (intOf v4).toNat)
  case atStart =>
    obtain ⟨e1, e2⟩ := HX0.out
    refine ⟨1, some ⟨w.heap.size + 1, 0, none⟩, none, 1, 0, rfl, by have := HMM.out; omega, rfl, (by (repeat (first | with_reducible assumption | ((with_reducible refine Blk.newL ?_ ?_); (focus (first | (simp; done) | omega)); rfl) | with_reducible refine Blk.drew ?_ | with_reducible refine Blk.drewN ?_ _ | with_reducible refine Blk.alloc ?_ _ | ((with_reducible refine Blk.other ?_ ?_ _); rotate_left; (focus (first | with_reducible assumption | omega | (simp; done) | (simp; omega))))))), ?_, ?_, ?_, ?_, ?_, (by (repeat (first | with_reducible assumption | with_reducible exact Kp.refl _ | with_reducible refine Kp.drew ?_ | with_reducible refine Kp.drewN ?_ _ | with_reducible refine Kp.alloc ?_ _ | ((with_reducible refine Kp.setCell ?_ ?_ _); rotate_left; (focus (first | omega | (simp; done) | (simp; omega)))) | with_reducible refine Kp.trans ?_ (by assumption))))⟩
    · show Blk _ _ [.slice _ (evens (ns.take 1)).length 1, .slice none (odds (ns.take 1)).length 0] _
      rw [e1, e2]
      show Blk _ _ [.slice _ 1 1, .slice none 0 0] _
      exact (by (repeat (first | with_reducible assumption | ((with_reducible refine Blk.newL ?_ ?_); (focus (first | (simp; done) | omega)); rfl) | with_reducible refine Blk.drew ?_ | with_reducible refine Blk.drewN ?_ _ | with_reducible refine Blk.alloc ?_ _ | ((with_reducible refine Blk.other ?_ ?_ _); rotate_left; (focus (first | with_reducible assumption | omega | (simp; done) | (simp; omega)))))))
    · show Row _ _ _ _ _ (.slice _ (evens (ns.take 1)).length 1) (evens (ns.take 1))
      rw [e1]
      exact row_blk (show Blk _ (w.heap.size + 1) (enc1 x0) 23 from (by (repeat (first | with_reducible assumption | ((with_reducible refine Blk.newL ?_ ?_); (focus (first | (simp; done) | omega)); rfl) | with_reducible refine Blk.drew ?_ | with_reducible refine Blk.drewN ?_ _ | with_reducible refine Blk.alloc ?_ _ | ((with_reducible refine Blk.other ?_ ?_ _); rotate_left; (focus (first | with_reducible assumption | omega | (simp; done) | (simp; omega)))))))) (Nat.le_refl _) rfl
    · show Row _ _ _ _ _ (.slice none (odds (ns.take 1)).length 0) (odds (ns.take 1))
      rw [e2]
      exact Row.nil _ _ _ _ _
    · intro b hb
      cases hb
      show w.heap.size + 1 ≠ w.heap.size + 1 + 1
      omega
    · intro b hb
      cases hb
  case round =>
    obtain ⟨i, la, pa, lc, pc, hodd, hi, rfl, xres, xn, xl, xp, xla, xpa, xk⟩ := hrel
    have htl : (ns.take i).length ≤ i := List.length_take_le _ _
    have hEl : (evens (ns.take i)).length ≤ 10000 := by have := (evens_len (ns.take i)).1; omega
    have hOl : (odds (ns.take i)).length ≤ 10000 := by have := (evens_len (ns.take i)).2; omega
    obtain ⟨E, hE⟩ : ∃ E, evens (ns.take i) = E := ⟨_, rfl⟩
    obtain ⟨O, hO⟩ : ∃ O, odds (ns.take i) = O := ⟨_, rfl⟩
    rw [hE] at xn xl xla hEl
    rw [hO] at xn xp xpa hOl
    have z0 := xn.cell 0 rfl
    have z1 := xn.cell 1 rfl
    have XN := Lib.hid xn
    have XL := Lib.hid xl
    have XP := Lib.hid xp
    have XRES := Lib.hid xres
    have XLA := Lib.hid xla
    have XPA := Lib.hid xpa
    have hnl := xn.lt
    have hrl := xres.lt
    have hgr : g < wr.heap.size := Nat.lt_of_lt_of_le hg xk.size
    clear xl xp xla xpa
    by_cases hlt : i + 1 < N
    · have hlen : ns.length = N := HNN.out
      obtain ⟨x, hx⟩ : ∃ x, ns[i]? = some x := ⟨ns[i]'(by omega), List.getElem?_eq_getElem (by omega)⟩
      obtain ⟨y, hy⟩ : ∃ y, ns[i + 1]? = some y := ⟨ns[i + 1]'(by omega), List.getElem?_eq_getElem (by omega)⟩
      have HN := Lib.hid (evens_two hodd hx hy)
      rw [hE, hO] at HN
      have dx := (xk.cell (p := ⟨g, i, none⟩) hg).trans (HCELL.out i x hx)
      have dy := (xk.cell (p := ⟨g, i + 1, none⟩) hg).trans (HCELL.out (i + 1) y hy)
      have ji : decide ((i : Int) + 1 < (N : Int)) = true := decide_eq_true (by omega)
      have ji' : decide (i + 1 < N) = true := decide_eq_true (by omega)
      have HNZ : Hid (w.heap.size + 1 ≤ wr.heap.size) := Lib.hid (by omega)
      have hiN : i < N := by omega
      have hN2 : w.heap.size + 1 + 1 ≠ g := by omega
      clear hlen hx hy hE hO htl xn xres
      go_wp2_with fail
      (refine wp_region_held_drew (S := (fun w' => wr.heap.size ≤ w'.heap.size ∧ w'.cell? ⟨g, i, none⟩ = some (.int .i64 x))) (by kernel_rfl) ?_ (fun hHd => ?_); (focus ((try dsimp only); exact ⟨Nat.le_refl _, dx⟩)))
      (refine takeH (i := 0) (oi := ?o172) (v := ?v172) ?h172 (by kernel_rfl) ?q172 (Or.inl ⟨?w172, ?y172⟩) (by assumption) ?r172; (case h172 => ((simp only [g1, g3]); rfl)); (case q172 => exact fun _ _ _ h => h); (case w172 => rfl); (case y172 => (intro w' hSw; (try dsimp only at hSw); go_simp; (try with_reducible rfl))); (try simp only [Act.put, s1, s2, s3]))
      (refine takeH (i := 2) (oi := ?o173) (v := ?v173) ?h173 (by kernel_rfl) ?q173 (Or.inl ⟨?w173, ?y173⟩) (by assumption) ?r173; (case h173 => ((simp only [g1, g2, g3]); rfl)); (case q173 => exact fun _ _ _ h => h); (case w173 => rfl); (case y173 => (intro w' hSw; (try dsimp only at hSw); go_simp; (try with_reducible rfl))); (try simp only [Act.put, s1, s2, s3]))
      (refine takeH (i := 3) (oi := ?o174) (v := ?v174) ?h174 (by kernel_rfl) ?q174 (Or.inl ⟨?w174, ?y174⟩) (by assumption) ?r174; (case h174 => ((simp only [g1, g2, g3]); rfl)); (case q174 => exact fun _ _ _ h => h); (case w174 => rfl); (case y174 => (intro w' hSw; (try dsimp only at hSw); go_simp; (try with_reducible rfl))); (try simp only [Act.put, s1, s2, s3]))
      (refine takeH (i := 4) (oi := ?o175) (v := ?v175) ?h175 (by kernel_rfl) ?q175 (Or.inl ⟨?w175, ?y175⟩) (by assumption) ?r175; (case h175 => ((simp only [g1, g2, g3]); rfl)); (case q175 => exact fun _ _ _ h => h); (case w175 => rfl); (case y175 => (intro w' hSw; (try dsimp only at hSw); go_simp; (try with_reducible rfl))); (try simp only [Act.put, s1, s2, s3]))
      (refine takeH (i := 5) (oi := ?o176) (v := ?v176) ?h176 (by kernel_rfl) ?q176 (Or.inl ⟨?w176, ?y176⟩) (by assumption) ?r176; (case h176 => ((simp only [g1, g2, g3]); rfl)); (case q176 => exact fun _ _ _ h => h); (case w176 => rfl); (case y176 => (intro w' hSw; (try dsimp only at hSw); go_simp; (try with_reducible rfl))); (try simp only [Act.put, s1, s2, s3]))
      (refine wpAnyH_ready (rs := [1, 6]) (by kernel_rfl) (by simp) ?_; refine (AllReadyH.cons (o := ?o177) ?h177 (fun K hK => ?s177) (AllReadyH.cons (o := ?o178) ?h178 (fun K hK => ?s178) AllReadyH.nil)); (case h177 => (first | ((simp only [g1, g2, g3]); rfl) | rfl)); (case h178 => (first | ((simp only [g1, g2, g3]); rfl) | rfl)))
      (go_simp; (try dsimp only); refine hK.out _ _ ?_ (fun hHd => ?_); (focus ((try dsimp only); exact hHd)); clear hK K; (try simp only [Act.put, s1, s2, s3]))
      (refine wpAnyH_ready (rs := [6]) (by kernel_rfl) (by simp) ?_; refine AllReadyH.cons (o := ?o179) ?h179 (fun K hK => ?s179) AllReadyH.nil; (case h179 => (first | ((simp only [g1, g2, g3]); rfl) | rfl)); go_simp; (try dsimp only); refine hK.out _ _ ?_ (fun hHd => ?_); (focus ((try dsimp only); exact ⟨(show Kp wr _ from (by (repeat (first | with_reducible assumption | with_reducible exact Kp.refl _ | with_reducible refine Kp.drew ?_ | with_reducible refine Kp.drewN ?_ _ | with_reducible refine Kp.alloc ?_ _ | ((with_reducible refine Kp.setCell ?_ ?_ _); rotate_left; (focus (first | omega | (simp; done) | (simp; omega)))) | with_reducible refine Kp.trans ?_ (by assumption))))).size, ((show Kp wr _ from (by (repeat (first | with_reducible assumption | with_reducible exact Kp.refl _ | with_reducible refine Kp.drew ?_ | with_reducible refine Kp.drewN ?_ _ | with_reducible refine Kp.alloc ?_ _ | ((with_reducible refine Kp.setCell ?_ ?_ _); rotate_left; (focus (first | omega | (simp; done) | (simp; omega)))) | with_reducible refine Kp.trans ?_ (by assumption))))).cell (p := ⟨g, i, none⟩) hgr).trans dx⟩)); clear hK K; (try simp only [Act.put, s1, s2, s3]))
      (refine wpAnyH_ready (rs := [7]) (by kernel_rfl) (by simp) ?_; refine AllReadyH.cons (o := ?o180) ?h180 (fun K hK => ?s180) AllReadyH.nil; (case h180 => (first | ((simp only [g1, g2, g3]); rfl) | rfl)); (refine rowAppendX (.tmp 18) (.tmp 23) 45 ?ho181 Tryz.underlying45 infoInt rfl (by decide) (XP.out.kp (show Kp wr _ from (by (repeat (first | with_reducible assumption | with_reducible exact Kp.refl _ | with_reducible refine Kp.drew ?_ | with_reducible refine Kp.drewN ?_ _ | with_reducible refine Kp.alloc ?_ _ | ((with_reducible refine Kp.setCell ?_ ?_ _); rotate_left; (focus (first | omega | (simp; done) | (simp; omega)))) | with_reducible refine Kp.trans ?_ (by assumption)))))) ?hs181 (y := x) rfl (numOne x) (show Blk _ wr.heap.size (enc1 x) 3 from (by (repeat (first | with_reducible assumption | ((with_reducible refine Blk.newL ?_ ?_); (focus (first | (simp; done) | omega)); rfl) | with_reducible refine Blk.drew ?_ | with_reducible refine Blk.drewN ?_ _ | with_reducible refine Blk.alloc ?_ _ | ((with_reducible refine Blk.other ?_ ?_ _); rotate_left; (focus (first | with_reducible assumption | omega | (simp; done) | (simp; omega)))))))) ?hx181 ?hl181 ?hb181 ?hz181 ?_; (case ho181 => rfl); (case hs181 => rfl); (case hx181 => rfl); (case hl181 => unfold maxLen; omega); (case hb181 => omega); (case hz181 => exact Nat.le_trans HNZ.out (show Kp wr _ from (by (repeat (first | with_reducible assumption | with_reducible exact Kp.refl _ | with_reducible refine Kp.drew ?_ | with_reducible refine Kp.drewN ?_ _ | with_reducible refine Kp.alloc ?_ _ | ((with_reducible refine Kp.setCell ?_ ?_ _); rotate_left; (focus (first | omega | (simp; done) | (simp; omega)))) | with_reducible refine Kp.trans ?_ (by assumption))))).size); intro v' w6 hr' hgb hloc; obtain ⟨a6, c6, rfl, _⟩ := hr'.sl (fun _ => rfl); have hg6 : wr.grownBy w6 (Value.slice pa O.length pc).ownBlock := grown_trans (show Kp wr _ from (by (repeat (first | with_reducible assumption | with_reducible exact Kp.refl _ | with_reducible refine Kp.drew ?_ | with_reducible refine Kp.drewN ?_ _ | with_reducible refine Kp.alloc ?_ _ | ((with_reducible refine Kp.setCell ?_ ?_ _); rotate_left; (focus (first | omega | (simp; done) | (simp; omega)))) | with_reducible refine Kp.trans ?_ (by assumption))))).grownBy hgb; have hgs := hg6.size; have hkg : w6.heap[g]? = wr.heap[g]? := hg6.block _ hgr (fun e => by have := (XP.out.lt _ e.symm).1; omega); have hB6 := XN.out.grown1 hg6 (fun e => XPA.out _ e rfl); have e1 := hB6.cell 1 rfl; have f1 := hB6.free 1); refine hK.out _ _ ?_ (fun hHd => ?_); (focus ((try dsimp only); exact ⟨hgs, (cell_heap hkg _).trans dx⟩)); clear hK K; (try simp only [Act.put]))
      (refine takeH (i := 8) (oi := ?o182) (v := ?v182) ?h182 (by kernel_rfl) ?q182 (Or.inl ⟨?w182, ?y182⟩) (by assumption) ?r182; (case h182 => ((simp only [g1, g2, g3]); rfl)); (case q182 => exact fun _ _ _ h => h); (case w182 => rfl); (case y182 => (intro w' hSw; (try dsimp only at hSw); go_simp; (try with_reducible rfl))); (try simp only [Act.put, s1, s2, s3]))
      (refine wpAnyH_ready (rs := [9]) (by kernel_rfl) (by simp) ?_; refine AllReadyH.cons (o := ?o183) ?h183 (fun K hK => ?s183) AllReadyH.nil; (case h183 => (first | ((simp only [g1, g2, g3]); rfl) | rfl)); go_simp; (try dsimp only); refine hK.out _ _ ?_ (fun hHd => ?_); (focus ((try dsimp only); exact ⟨by simpa using hgs, (cell_heap (Below.heap_setCell _ _ _ _ (fun e => hN2 e.symm)) _).trans ((cell_heap hkg _).trans dx)⟩)); clear hK K; (try simp only [Act.put, s1, s2, s3]))
      refine wpAnyH_done (by kernel_rfl) ?_ _
      rotate_left
      (go_simp; (try dsimp only); refine hK.out _ _ ?_ (fun hHd => ?_); (focus ((try dsimp only); exact ⟨(show Kp wr _ from (by (repeat (first | with_reducible assumption | with_reducible exact Kp.refl _ | with_reducible refine Kp.drew ?_ | with_reducible refine Kp.drewN ?_ _ | with_reducible refine Kp.alloc ?_ _ | ((with_reducible refine Kp.setCell ?_ ?_ _); rotate_left; (focus (first | omega | (simp; done) | (simp; omega)))) | with_reducible refine Kp.trans ?_ (by assumption))))).size, ((show Kp wr _ from (by (repeat (first | with_reducible assumption | with_reducible exact Kp.refl _ | with_reducible refine Kp.drew ?_ | with_reducible refine Kp.drewN ?_ _ | with_reducible refine Kp.alloc ?_ _ | ((with_reducible refine Kp.setCell ?_ ?_ _); rotate_left; (focus (first | omega | (simp; done) | (simp; omega)))) | with_reducible refine Kp.trans ?_ (by assumption))))).cell (p := ⟨g, i, none⟩) hgr).trans dx⟩)); clear hK K; (try simp only [Act.put, s1, s2, s3]))
      (refine wpAnyH_ready (rs := [1]) (by kernel_rfl) (by simp) ?_; refine AllReadyH.cons (o := ?o184) ?h184 (fun K hK => ?s184) AllReadyH.nil; (case h184 => (first | ((simp only [g1, g2, g3]); rfl) | rfl)); go_simp; (try dsimp only); refine hK.out _ _ ?_ (fun hHd => ?_); (focus ((try dsimp only); exact hHd)); clear hK K; (try simp only [Act.put, s1, s2, s3]))
      (refine wpAnyH_ready (rs := [7]) (by kernel_rfl) (by simp) ?_; refine AllReadyH.cons (o := ?o185) ?h185 (fun K hK => ?s185) AllReadyH.nil; (case h185 => (first | ((simp only [g1, g2, g3]); rfl) | rfl)); (refine rowAppendX (.tmp 18) (.tmp 23) 45 ?ho186 Tryz.underlying45 infoInt rfl (by decide) (XP.out.kp (show Kp wr _ from (by (repeat (first | with_reducible assumption | with_reducible exact Kp.refl _ | with_reducible refine Kp.drew ?_ | with_reducible refine Kp.drewN ?_ _ | with_reducible refine Kp.alloc ?_ _ | ((with_reducible refine Kp.setCell ?_ ?_ _); rotate_left; (focus (first | omega | (simp; done) | (simp; omega)))) | with_reducible refine Kp.trans ?_ (by assumption)))))) ?hs186 (y := x) rfl (numOne x) (show Blk _ wr.heap.size (enc1 x) 3 from (by (repeat (first | with_reducible assumption | ((with_reducible refine Blk.newL ?_ ?_); (focus (first | (simp; done) | omega)); rfl) | with_reducible refine Blk.drew ?_ | with_reducible refine Blk.drewN ?_ _ | with_reducible refine Blk.alloc ?_ _ | ((with_reducible refine Blk.other ?_ ?_ _); rotate_left; (focus (first | with_reducible assumption | omega | (simp; done) | (simp; omega)))))))) ?hx186 ?hl186 ?hb186 ?hz186 ?_; (case ho186 => rfl); (case hs186 => rfl); (case hx186 => rfl); (case hl186 => unfold maxLen; omega); (case hb186 => omega); (case hz186 => exact Nat.le_trans HNZ.out (show Kp wr _ from (by (repeat (first | with_reducible assumption | with_reducible exact Kp.refl _ | with_reducible refine Kp.drew ?_ | with_reducible refine Kp.drewN ?_ _ | with_reducible refine Kp.alloc ?_ _ | ((with_reducible refine Kp.setCell ?_ ?_ _); rotate_left; (focus (first | omega | (simp; done) | (simp; omega)))) | with_reducible refine Kp.trans ?_ (by assumption))))).size); intro v' w6 hr' hgb hloc; obtain ⟨a6, c6, rfl, _⟩ := hr'.sl (fun _ => rfl); have hg6 : wr.grownBy w6 (Value.slice pa O.length pc).ownBlock := grown_trans (show Kp wr _ from (by (repeat (first | with_reducible assumption | with_reducible exact Kp.refl _ | with_reducible refine Kp.drew ?_ | with_reducible refine Kp.drewN ?_ _ | with_reducible refine Kp.alloc ?_ _ | ((with_reducible refine Kp.setCell ?_ ?_ _); rotate_left; (focus (first | omega | (simp; done) | (simp; omega)))) | with_reducible refine Kp.trans ?_ (by assumption))))).grownBy hgb; have hgs := hg6.size; have hkg : w6.heap[g]? = wr.heap[g]? := hg6.block _ hgr (fun e => by have := (XP.out.lt _ e.symm).1; omega); have hB6 := XN.out.grown1 hg6 (fun e => XPA.out _ e rfl); have e1 := hB6.cell 1 rfl; have f1 := hB6.free 1); refine hK.out _ _ ?_ (fun hHd => ?_); (focus ((try dsimp only); exact ⟨hgs, (cell_heap hkg _).trans dx⟩)); clear hK K; (try simp only [Act.put]))
      (refine takeH (i := 8) (oi := ?o187) (v := ?v187) ?h187 (by kernel_rfl) ?q187 (Or.inl ⟨?w187, ?y187⟩) (by assumption) ?r187; (case h187 => ((simp only [g1, g2, g3]); rfl)); (case q187 => exact fun _ _ _ h => h); (case w187 => rfl); (case y187 => (intro w' hSw; (try dsimp only at hSw); go_simp; (try with_reducible rfl))); (try simp only [Act.put, s1, s2, s3]))
      (refine wpAnyH_ready (rs := [9]) (by kernel_rfl) (by simp) ?_; refine AllReadyH.cons (o := ?o188) ?h188 (fun K hK => ?s188) AllReadyH.nil; (case h188 => (first | ((simp only [g1, g2, g3]); rfl) | rfl)); go_simp; (try dsimp only); refine hK.out _ _ ?_ (fun hHd => ?_); (focus ((try dsimp only); exact ⟨by simpa using hgs, (cell_heap (Below.heap_setCell _ _ _ _ (fun e => hN2 e.symm)) _).trans ((cell_heap hkg _).trans dx)⟩)); clear hK K; (try simp only [Act.put, s1, s2, s3]))
      refine wpAnyH_done (by kernel_rfl) ?_ _
      rotate_left
      · have hB7 := hB6.set 1 (.slice a6 (O ++ [x]).length c6)
        have hp7 := row_away hr' hB6 (by decide) 1 (.slice a6 (O ++ [x]).length c6)
        have hl7 := row_away (row_apart XL.out XP.out (by decide) hg6) hB6 (by decide) 1 (.slice a6 (O ++ [x]).length c6)
        have hres7 := (XRES.out.grown1 hg6 (fun e => by have := (XP.out.lt _ e).1; omega)).other (a := ⟨w.heap.size + 1 + 1, 1, none⟩) (by show w.heap.size ≠ w.heap.size + 1 + 1; omega) (.slice a6 (O ++ [x]).length c6)
        have k7 : Kp w (w6.setCell ⟨w.heap.size + 1 + 1, 1, none⟩ (.slice a6 (O ++ [x]).length c6)) := (xk.grown1 hg6 fun b hb => by have := (XP.out.lt _ hb).1; omega).setCell (p := ⟨w.heap.size + 1 + 1, 1, none⟩) (by show w.heap.size ≤ w.heap.size + 1 + 1; omega) _
        have hpa7 : ∀ b, (Value.slice a6 (O ++ [x]).length c6).ownBlock = some b → b ≠ w.heap.size + 1 + 1 := fun b hb => by
          rcases hloc with e | e
          · exact XPA.out b (e ▸ hb)
          · rw [e] at hb
            have := Option.some.inj hb
            intro e2
            rw [e2] at this
            simp at this
            omega
        have hLL : (O ++ [x]).length = O.length + 1 := by simp
        rw [hLL] at hB7 hp7 hl7 hres7 k7 hpa7
        have hdy7 : (w6.setCell ⟨w.heap.size + 1 + 1, 1, none⟩ (.slice a6 (O.length + 1) c6)).cell? ⟨g, i + 1, none⟩ = some (.int .i64 y) := (cell_heap (Below.heap_setCell _ _ _ _ (fun e => hN2 e.symm)) _).trans ((cell_heap hkg _).trans dy)
        have hgs7 : wr.heap.size ≤ (w6.setCell ⟨w.heap.size + 1 + 1, 1, none⟩ (.slice a6 (O.length + 1) c6)).heap.size := by simpa using hgs
        clear hHd
        generalize (w6.setCell ⟨w.heap.size + 1 + 1, 1, none⟩ (.slice a6 (O.length + 1) c6)) = w7 at hB7 hp7 hl7 hres7 k7 hdy7 hgs7 ⊢
        have XN7 := Lib.hid hB7
        have XP7 := Lib.hid hp7
        have XL7 := Lib.hid hl7
        have XRES7 := Lib.hid hres7
        have y0 := hB7.cell 0 rfl
        have y1 := hB7.cell 1 rfl
        have hnl7 := hB7.lt
        have hgr7 : g < w7.heap.size := Nat.lt_of_lt_of_le hgr hgs7
        have HNZ7 : Hid (w.heap.size + 1 ≤ w7.heap.size) := Lib.hid (by omega)
        clear hB7 hp7 hl7 hres7 hr' hgb hg6 hgs hkg hB6 e1 f1 dx dy z0 z1 hloc
        have hw1 : IntKind.i64.wrap ((i : Int) + 1) = (i : Int) + 1 := by rw [IntKind.wrap_i64]; omega
        have hb1 : (0 : Int) ≤ (i : Int) + 1 := by omega
        have hb2 : (i : Int) + 1 < (N : Int) := by omega
        have hb3 : ((i : Int) + 1).toNat = i + 1 := by omega
        go_wp2_with fail
        (refine wp_region_held_drew (S := (fun w' => w7.heap.size ≤ w'.heap.size ∧ w'.cell? ⟨g, i + 1, none⟩ = some (.int .i64 y))) (by kernel_rfl) ?_ (fun hHd => ?_); (focus ((try dsimp only); exact ⟨Nat.le_refl _, hdy7⟩)))
        (refine takeH (i := 0) (oi := ?o189) (v := ?v189) ?h189 (by kernel_rfl) ?q189 (Or.inl ⟨?w189, ?y189⟩) (by assumption) ?r189; (case h189 => ((simp only [g1, g3]); rfl)); (case q189 => exact fun _ _ _ h => h); (case w189 => rfl); (case y189 => (intro w' hSw; (try dsimp only at hSw); go_simp; (try with_reducible rfl))); (try simp only [Act.put, s1, s2, s3]))
        (refine takeH (i := 2) (oi := ?o190) (v := ?v190) ?h190 (by kernel_rfl) ?q190 (Or.inl ⟨?w190, ?y190⟩) (by assumption) ?r190; (case h190 => ((simp only [g1, g2, g3]); rfl)); (case q190 => exact fun _ _ _ h => h); (case w190 => rfl); (case y190 => (intro w' hSw; (try dsimp only at hSw); go_simp; (try with_reducible rfl))); (try simp only [Act.put, s1, s2, s3]))
        (refine takeH (i := 3) (oi := ?o191) (v := ?v191) ?h191 (by kernel_rfl) ?q191 (Or.inl ⟨?w191, ?y191⟩) (by assumption) ?r191; (case h191 => ((simp only [g1, g2, g3]); rfl)); (case q191 => exact fun _ _ _ h => h); (case w191 => rfl); (case y191 => (intro w' hSw; (try dsimp only at hSw); go_simp; (try with_reducible rfl))); (try simp only [Act.put, s1, s2, s3]))
        (refine takeH (i := 4) (oi := ?o192) (v := ?v192) ?h192 (by kernel_rfl) ?q192 (Or.inl ⟨?w192, ?y192⟩) (by assumption) ?r192; (case h192 => ((simp only [g1, g2, g3]); rfl)); (case q192 => exact fun _ _ _ h => h); (case w192 => rfl); (case y192 => (intro w' hSw; (try dsimp only at hSw); go_simp; (try with_reducible rfl))); (try simp only [Act.put, s1, s2, s3]))
        (refine takeH (i := 5) (oi := ?o193) (v := ?v193) ?h193 (by kernel_rfl) ?q193 (Or.inl ⟨?w193, ?y193⟩) (by assumption) ?r193; (case h193 => ((simp only [g1, g2, g3]); rfl)); (case q193 => exact fun _ _ _ h => h); (case w193 => rfl); (case y193 => (intro w' hSw; (try dsimp only at hSw); go_simp; (try with_reducible rfl))); (try simp only [Act.put, s1, s2, s3]))
        (refine takeH (i := 6) (oi := ?o194) (v := ?v194) ?h194 (by kernel_rfl) ?q194 (Or.inl ⟨?w194, ?y194⟩) (by assumption) ?r194; (case h194 => ((simp only [g1, g2, g3]); rfl)); (case q194 => exact fun _ _ _ h => h); (case w194 => rfl); (case y194 => (intro w' hSw; (try dsimp only at hSw); go_simp; (try with_reducible rfl))); (try simp only [Act.put, s1, s2, s3]))
        (refine wpAnyH_ready (rs := [1, 7]) (by kernel_rfl) (by simp) ?_; refine (AllReadyH.cons (o := ?o195) ?h195 (fun K hK => ?s195) (AllReadyH.cons (o := ?o196) ?h196 (fun K hK => ?s196) AllReadyH.nil)); (case h195 => (first | ((simp only [g1, g2, g3]); rfl) | rfl)); (case h196 => (first | ((simp only [g1, g2, g3]); rfl) | rfl)))
        (go_simp; (try dsimp only); refine hK.out _ _ ?_ (fun hHd => ?_); (focus ((try dsimp only); exact hHd)); clear hK K; (try simp only [Act.put, s1, s2, s3]))
        (refine wpAnyH_ready (rs := [7]) (by kernel_rfl) (by simp) ?_; refine AllReadyH.cons (o := ?o197) ?h197 (fun K hK => ?s197) AllReadyH.nil; (case h197 => (first | ((simp only [g1, g2, g3]); rfl) | rfl)); go_simp; (try dsimp only); refine hK.out _ _ ?_ (fun hHd => ?_); (focus ((try dsimp only); exact ⟨(show Kp w7 _ from (by (repeat (first | with_reducible assumption | with_reducible exact Kp.refl _ | with_reducible refine Kp.drew ?_ | with_reducible refine Kp.drewN ?_ _ | with_reducible refine Kp.alloc ?_ _ | ((with_reducible refine Kp.setCell ?_ ?_ _); rotate_left; (focus (first | omega | (simp; done) | (simp; omega)))) | with_reducible refine Kp.trans ?_ (by assumption))))).size, ((show Kp w7 _ from (by (repeat (first | with_reducible assumption | with_reducible exact Kp.refl _ | with_reducible refine Kp.drew ?_ | with_reducible refine Kp.drewN ?_ _ | with_reducible refine Kp.alloc ?_ _ | ((with_reducible refine Kp.setCell ?_ ?_ _); rotate_left; (focus (first | omega | (simp; done) | (simp; omega)))) | with_reducible refine Kp.trans ?_ (by assumption))))).cell (p := ⟨g, i + 1, none⟩) hgr7).trans hdy7⟩)); clear hK K; (try simp only [Act.put, s1, s2, s3]))
        (refine wpAnyH_ready (rs := [8]) (by kernel_rfl) (by simp) ?_; refine AllReadyH.cons (o := ?o198) ?h198 (fun K hK => ?s198) AllReadyH.nil; (case h198 => (first | ((simp only [g1, g2, g3]); rfl) | rfl)); (refine rowAppendX (.tmp 27) (.tmp 33) 44 ?ho199 Tryz.underlying44 infoSp rfl (by decide) (XL7.out.kp (show Kp w7 _ from (by (repeat (first | with_reducible assumption | with_reducible exact Kp.refl _ | with_reducible refine Kp.drew ?_ | with_reducible refine Kp.drewN ?_ _ | with_reducible refine Kp.alloc ?_ _ | ((with_reducible refine Kp.setCell ?_ ?_ _); rotate_left; (focus (first | omega | (simp; done) | (simp; omega)))) | with_reducible refine Kp.trans ?_ (by assumption)))))) ?hs199 (y := y) rfl (numOne y) (show Blk _ w7.heap.size (enc1 y) 23 from (by (repeat (first | with_reducible assumption | ((with_reducible refine Blk.newL ?_ ?_); (focus (first | (simp; done) | omega)); rfl) | with_reducible refine Blk.drew ?_ | with_reducible refine Blk.drewN ?_ _ | with_reducible refine Blk.alloc ?_ _ | ((with_reducible refine Blk.other ?_ ?_ _); rotate_left; (focus (first | with_reducible assumption | omega | (simp; done) | (simp; omega)))))))) ?hx199 ?hl199 ?hb199 ?hz199 ?_; (case ho199 => rfl); (case hs199 => rfl); (case hx199 => rfl); (case hl199 => unfold maxLen; omega); (case hb199 => omega); (case hz199 => exact Nat.le_trans HNZ7.out (show Kp w7 _ from (by (repeat (first | with_reducible assumption | with_reducible exact Kp.refl _ | with_reducible refine Kp.drew ?_ | with_reducible refine Kp.drewN ?_ _ | with_reducible refine Kp.alloc ?_ _ | ((with_reducible refine Kp.setCell ?_ ?_ _); rotate_left; (focus (first | omega | (simp; done) | (simp; omega)))) | with_reducible refine Kp.trans ?_ (by assumption))))).size); intro v' w8 hr8 hgb8 hloc8; obtain ⟨a8, c8, rfl, _⟩ := hr8.sl (fun _ => rfl); have hg8 : w7.grownBy w8 (Value.slice la E.length lc).ownBlock := grown_trans (show Kp w7 _ from (by (repeat (first | with_reducible assumption | with_reducible exact Kp.refl _ | with_reducible refine Kp.drew ?_ | with_reducible refine Kp.drewN ?_ _ | with_reducible refine Kp.alloc ?_ _ | ((with_reducible refine Kp.setCell ?_ ?_ _); rotate_left; (focus (first | omega | (simp; done) | (simp; omega)))) | with_reducible refine Kp.trans ?_ (by assumption))))).grownBy hgb8; have hgs8 := hg8.size; have hkg8 : w8.heap[g]? = w7.heap[g]? := hg8.block _ hgr7 (fun e => by have := (XL.out.lt _ e.symm).1; omega); have hB8 := XN7.out.grown1 hg8 (fun e => XLA.out _ e rfl); have e1 := hB8.cell 0 rfl; have f1 := hB8.free 0); refine hK.out _ _ ?_ (fun hHd => ?_); (focus ((try dsimp only); exact ⟨hgs8, (cell_heap hkg8 _).trans hdy7⟩)); clear hK K; (try simp only [Act.put]))
        (refine takeH (i := 9) (oi := ?o200) (v := ?v200) ?h200 (by kernel_rfl) ?q200 (Or.inl ⟨?w200, ?y200⟩) (by assumption) ?r200; (case h200 => ((simp only [g1, g2, g3]); rfl)); (case q200 => exact fun _ _ _ h => h); (case w200 => rfl); (case y200 => (intro w' hSw; (try dsimp only at hSw); go_simp; (try with_reducible rfl))); (try simp only [Act.put, s1, s2, s3]))
        (refine wpAnyH_ready (rs := [10]) (by kernel_rfl) (by simp) ?_; refine AllReadyH.cons (o := ?o201) ?h201 (fun K hK => ?s201) AllReadyH.nil; (case h201 => (first | ((simp only [g1, g2, g3]); rfl) | rfl)); go_simp; (try dsimp only); refine hK.out _ _ ?_ (fun hHd => ?_); (focus ((try dsimp only); exact ⟨by simpa using hgs8, (cell_heap (Below.heap_setCell _ _ _ _ (fun e => hN2 e.symm)) _).trans ((cell_heap hkg8 _).trans hdy7)⟩)); clear hK K; (try simp only [Act.put, s1, s2, s3]))
        refine wpAnyH_done (by kernel_rfl) ?_ _
        rotate_left
        (go_simp; (try dsimp only); refine hK.out _ _ ?_ (fun hHd => ?_); (focus ((try dsimp only); exact ⟨(show Kp w7 _ from (by (repeat (first | with_reducible assumption | with_reducible exact Kp.refl _ | with_reducible refine Kp.drew ?_ | with_reducible refine Kp.drewN ?_ _ | with_reducible refine Kp.alloc ?_ _ | ((with_reducible refine Kp.setCell ?_ ?_ _); rotate_left; (focus (first | omega | (simp; done) | (simp; omega)))) | with_reducible refine Kp.trans ?_ (by assumption))))).size, ((show Kp w7 _ from (by (repeat (first | with_reducible assumption | with_reducible exact Kp.refl _ | with_reducible refine Kp.drew ?_ | with_reducible refine Kp.drewN ?_ _ | with_reducible refine Kp.alloc ?_ _ | ((with_reducible refine Kp.setCell ?_ ?_ _); rotate_left; (focus (first | omega | (simp; done) | (simp; omega)))) | with_reducible refine Kp.trans ?_ (by assumption))))).cell (p := ⟨g, i + 1, none⟩) hgr7).trans hdy7⟩)); clear hK K; (try simp only [Act.put, s1, s2, s3]))
        (refine wpAnyH_ready (rs := [1]) (by kernel_rfl) (by simp) ?_; refine AllReadyH.cons (o := ?o202) ?h202 (fun K hK => ?s202) AllReadyH.nil; (case h202 => (first | ((simp only [g1, g2, g3]); rfl) | rfl)); go_simp; (try dsimp only); refine hK.out _ _ ?_ (fun hHd => ?_); (focus ((try dsimp only); exact hHd)); clear hK K; (try simp only [Act.put, s1, s2, s3]))
        (refine wpAnyH_ready (rs := [8]) (by kernel_rfl) (by simp) ?_; refine AllReadyH.cons (o := ?o203) ?h203 (fun K hK => ?s203) AllReadyH.nil; (case h203 => (first | ((simp only [g1, g2, g3]); rfl) | rfl)); (refine rowAppendX (.tmp 27) (.tmp 33) 44 ?ho204 Tryz.underlying44 infoSp rfl (by decide) (XL7.out.kp (show Kp w7 _ from (by (repeat (first | with_reducible assumption | with_reducible exact Kp.refl _ | with_reducible refine Kp.drew ?_ | with_reducible refine Kp.drewN ?_ _ | with_reducible refine Kp.alloc ?_ _ | ((with_reducible refine Kp.setCell ?_ ?_ _); rotate_left; (focus (first | omega | (simp; done) | (simp; omega)))) | with_reducible refine Kp.trans ?_ (by assumption)))))) ?hs204 (y := y) rfl (numOne y) (show Blk _ w7.heap.size (enc1 y) 23 from (by (repeat (first | with_reducible assumption | ((with_reducible refine Blk.newL ?_ ?_); (focus (first | (simp; done) | omega)); rfl) | with_reducible refine Blk.drew ?_ | with_reducible refine Blk.drewN ?_ _ | with_reducible refine Blk.alloc ?_ _ | ((with_reducible refine Blk.other ?_ ?_ _); rotate_left; (focus (first | with_reducible assumption | omega | (simp; done) | (simp; omega)))))))) ?hx204 ?hl204 ?hb204 ?hz204 ?_; (case ho204 => rfl); (case hs204 => rfl); (case hx204 => rfl); (case hl204 => unfold maxLen; omega); (case hb204 => omega); (case hz204 => exact Nat.le_trans HNZ7.out (show Kp w7 _ from (by (repeat (first | with_reducible assumption | with_reducible exact Kp.refl _ | with_reducible refine Kp.drew ?_ | with_reducible refine Kp.drewN ?_ _ | with_reducible refine Kp.alloc ?_ _ | ((with_reducible refine Kp.setCell ?_ ?_ _); rotate_left; (focus (first | omega | (simp; done) | (simp; omega)))) | with_reducible refine Kp.trans ?_ (by assumption))))).size); intro v' w8 hr8 hgb8 hloc8; obtain ⟨a8, c8, rfl, _⟩ := hr8.sl (fun _ => rfl); have hg8 : w7.grownBy w8 (Value.slice la E.length lc).ownBlock := grown_trans (show Kp w7 _ from (by (repeat (first | with_reducible assumption | with_reducible exact Kp.refl _ | with_reducible refine Kp.drew ?_ | with_reducible refine Kp.drewN ?_ _ | with_reducible refine Kp.alloc ?_ _ | ((with_reducible refine Kp.setCell ?_ ?_ _); rotate_left; (focus (first | omega | (simp; done) | (simp; omega)))) | with_reducible refine Kp.trans ?_ (by assumption))))).grownBy hgb8; have hgs8 := hg8.size; have hkg8 : w8.heap[g]? = w7.heap[g]? := hg8.block _ hgr7 (fun e => by have := (XL.out.lt _ e.symm).1; omega); have hB8 := XN7.out.grown1 hg8 (fun e => XLA.out _ e rfl); have e1 := hB8.cell 0 rfl; have f1 := hB8.free 0); refine hK.out _ _ ?_ (fun hHd => ?_); (focus ((try dsimp only); exact ⟨hgs8, (cell_heap hkg8 _).trans hdy7⟩)); clear hK K; (try simp only [Act.put]))
        (refine takeH (i := 9) (oi := ?o205) (v := ?v205) ?h205 (by kernel_rfl) ?q205 (Or.inl ⟨?w205, ?y205⟩) (by assumption) ?r205; (case h205 => ((simp only [g1, g2, g3]); rfl)); (case q205 => exact fun _ _ _ h => h); (case w205 => rfl); (case y205 => (intro w' hSw; (try dsimp only at hSw); go_simp; (try with_reducible rfl))); (try simp only [Act.put, s1, s2, s3]))
        (refine wpAnyH_ready (rs := [10]) (by kernel_rfl) (by simp) ?_; refine AllReadyH.cons (o := ?o206) ?h206 (fun K hK => ?s206) AllReadyH.nil; (case h206 => (first | ((simp only [g1, g2, g3]); rfl) | rfl)); go_simp; (try dsimp only); refine hK.out _ _ ?_ (fun hHd => ?_); (focus ((try dsimp only); exact ⟨by simpa using hgs8, (cell_heap (Below.heap_setCell _ _ _ _ (fun e => hN2 e.symm)) _).trans ((cell_heap hkg8 _).trans hdy7)⟩)); clear hK K; (try simp only [Act.put, s1, s2, s3]))
        refine wpAnyH_done (by kernel_rfl) ?_ _
        rotate_left
        all_goals
          have hB9 := hB8.set 0 (.slice a8 (E ++ [y]).length c8)
          have hl9 := row_away hr8 hB8 (by decide) 0 (.slice a8 (E ++ [y]).length c8)
          have hp9 := row_away (row_apart XP7.out XL7.out (by decide) hg8) hB8 (by decide) 0 (.slice a8 (E ++ [y]).length c8)
          have hres9 := (XRES7.out.grown1 hg8 (fun e => by have := (XL.out.lt _ e).1; omega)).other (a := ⟨w.heap.size + 1 + 1, 0, none⟩) (by show w.heap.size ≠ w.heap.size + 1 + 1; omega) (.slice a8 (E ++ [y]).length c8)
          have k9 : Kp w (w8.setCell ⟨w.heap.size + 1 + 1, 0, none⟩ (.slice a8 (E ++ [y]).length c8)) := (k7.grown1 hg8 fun b hb => by have := (XL.out.lt _ hb).1; omega).setCell (p := ⟨w.heap.size + 1 + 1, 0, none⟩) (by show w.heap.size ≤ w.heap.size + 1 + 1; omega) _
          have hla9 : ∀ b, (Value.slice a8 (E ++ [y]).length c8).ownBlock = some b → b ≠ w.heap.size + 1 + 1 := fun b hb => by
            rcases hloc8 with e | e
            · exact XLA.out b (e ▸ hb)
            · rw [e] at hb
              have := Option.some.inj hb
              intro e2
              rw [e2] at this
              simp at this
              omega
          have hEE : (E ++ [y]).length = E.length + 1 := by simp
          have hOO : (O ++ [x]).length = O.length + 1 := by simp
          rw [hEE] at hB9 hl9 hp9 hres9 k9 hla9
          have HEE := Lib.hid hEE
          have HOO := Lib.hid hOO
          clear hHd hEE hOO
          go_wp2_with fail
          go_roundw
          case rel =>
            refine ⟨i + 2, a8, a6, c8, c6, by omega, by omega, by go_num, hres9, ?_, ?_, ?_, ?_, ?_, k9⟩
            · rw [HN.out.1, HN.out.2, HEE.out, HOO.out]
              exact hB9
            · rw [HN.out.1, HEE.out]
              exact hl9
            · rw [HN.out.2, HOO.out]
              exact hp9
            · rw [HN.out.1, HEE.out]
              exact hla9
            · rw [HN.out.2, HOO.out]
              exact hpa7
          case measure => simp [intOf]; omega
      · have hB7 := hB6.set 1 (.slice a6 (O ++ [x]).length c6)
        have hp7 := row_away hr' hB6 (by decide) 1 (.slice a6 (O ++ [x]).length c6)
        have hl7 := row_away (row_apart XL.out XP.out (by decide) hg6) hB6 (by decide) 1 (.slice a6 (O ++ [x]).length c6)
        have hres7 := (XRES.out.grown1 hg6 (fun e => by have := (XP.out.lt _ e).1; omega)).other (a := ⟨w.heap.size + 1 + 1, 1, none⟩) (by show w.heap.size ≠ w.heap.size + 1 + 1; omega) (.slice a6 (O ++ [x]).length c6)
        have k7 : Kp w (w6.setCell ⟨w.heap.size + 1 + 1, 1, none⟩ (.slice a6 (O ++ [x]).length c6)) := (xk.grown1 hg6 fun b hb => by have := (XP.out.lt _ hb).1; omega).setCell (p := ⟨w.heap.size + 1 + 1, 1, none⟩) (by show w.heap.size ≤ w.heap.size + 1 + 1; omega) _
        have hpa7 : ∀ b, (Value.slice a6 (O ++ [x]).length c6).ownBlock = some b → b ≠ w.heap.size + 1 + 1 := fun b hb => by
          rcases hloc with e | e
          · exact XPA.out b (e ▸ hb)
          · rw [e] at hb
            have := Option.some.inj hb
            intro e2
            rw [e2] at this
            simp at this
            omega
        have hLL : (O ++ [x]).length = O.length + 1 := by simp
        rw [hLL] at hB7 hp7 hl7 hres7 k7 hpa7
        have hdy7 : (w6.setCell ⟨w.heap.size + 1 + 1, 1, none⟩ (.slice a6 (O.length + 1) c6)).cell? ⟨g, i + 1, none⟩ = some (.int .i64 y) := (cell_heap (Below.heap_setCell _ _ _ _ (fun e => hN2 e.symm)) _).trans ((cell_heap hkg _).trans dy)
        have hgs7 : wr.heap.size ≤ (w6.setCell ⟨w.heap.size + 1 + 1, 1, none⟩ (.slice a6 (O.length + 1) c6)).heap.size := by simpa using hgs
        clear hHd
        generalize (w6.setCell ⟨w.heap.size + 1 + 1, 1, none⟩ (.slice a6 (O.length + 1) c6)) = w7 at hB7 hp7 hl7 hres7 k7 hdy7 hgs7 ⊢
        have XN7 := Lib.hid hB7
        have XP7 := Lib.hid hp7
        have XL7 := Lib.hid hl7
        have XRES7 := Lib.hid hres7
        have y0 := hB7.cell 0 rfl
        have y1 := hB7.cell 1 rfl
        have hnl7 := hB7.lt
        have hgr7 : g < w7.heap.size := Nat.lt_of_lt_of_le hgr hgs7
        have HNZ7 : Hid (w.heap.size + 1 ≤ w7.heap.size) := Lib.hid (by omega)
        clear hB7 hp7 hl7 hres7 hr' hgb hg6 hgs hkg hB6 e1 f1 dx dy z0 z1 hloc
        have hw1 : IntKind.i64.wrap ((i : Int) + 1) = (i : Int) + 1 := by rw [IntKind.wrap_i64]; omega
        have hb1 : (0 : Int) ≤ (i : Int) + 1 := by omega
        have hb2 : (i : Int) + 1 < (N : Int) := by omega
        have hb3 : ((i : Int) + 1).toNat = i + 1 := by omega
        go_wp2_with fail
        (refine wp_region_held_drew (S := (fun w' => w7.heap.size ≤ w'.heap.size ∧ w'.cell? ⟨g, i + 1, none⟩ = some (.int .i64 y))) (by kernel_rfl) ?_ (fun hHd => ?_); (focus ((try dsimp only); exact ⟨Nat.le_refl _, hdy7⟩)))
        (refine takeH (i := 0) (oi := ?o207) (v := ?v207) ?h207 (by kernel_rfl) ?q207 (Or.inl ⟨?w207, ?y207⟩) (by assumption) ?r207; (case h207 => ((simp only [g1, g3]); rfl)); (case q207 => exact fun _ _ _ h => h); (case w207 => rfl); (case y207 => (intro w' hSw; (try dsimp only at hSw); go_simp; (try with_reducible rfl))); (try simp only [Act.put, s1, s2, s3]))
        (refine takeH (i := 2) (oi := ?o208) (v := ?v208) ?h208 (by kernel_rfl) ?q208 (Or.inl ⟨?w208, ?y208⟩) (by assumption) ?r208; (case h208 => ((simp only [g1, g2, g3]); rfl)); (case q208 => exact fun _ _ _ h => h); (case w208 => rfl); (case y208 => (intro w' hSw; (try dsimp only at hSw); go_simp; (try with_reducible rfl))); (try simp only [Act.put, s1, s2, s3]))
        (refine takeH (i := 3) (oi := ?o209) (v := ?v209) ?h209 (by kernel_rfl) ?q209 (Or.inl ⟨?w209, ?y209⟩) (by assumption) ?r209; (case h209 => ((simp only [g1, g2, g3]); rfl)); (case q209 => exact fun _ _ _ h => h); (case w209 => rfl); (case y209 => (intro w' hSw; (try dsimp only at hSw); go_simp; (try with_reducible rfl))); (try simp only [Act.put, s1, s2, s3]))
        (refine takeH (i := 4) (oi := ?o210) (v := ?v210) ?h210 (by kernel_rfl) ?q210 (Or.inl ⟨?w210, ?y210⟩) (by assumption) ?r210; (case h210 => ((simp only [g1, g2, g3]); rfl)); (case q210 => exact fun _ _ _ h => h); (case w210 => rfl); (case y210 => (intro w' hSw; (try dsimp only at hSw); go_simp; (try with_reducible rfl))); (try simp only [Act.put, s1, s2, s3]))
        (refine takeH (i := 5) (oi := ?o211) (v := ?v211) ?h211 (by kernel_rfl) ?q211 (Or.inl ⟨?w211, ?y211⟩) (by assumption) ?r211; (case h211 => ((simp only [g1, g2, g3]); rfl)); (case q211 => exact fun _ _ _ h => h); (case w211 => rfl); (case y211 => (intro w' hSw; (try dsimp only at hSw); go_simp; (try with_reducible rfl))); (try simp only [Act.put, s1, s2, s3]))
        (refine takeH (i := 6) (oi := ?o212) (v := ?v212) ?h212 (by kernel_rfl) ?q212 (Or.inl ⟨?w212, ?y212⟩) (by assumption) ?r212; (case h212 => ((simp only [g1, g2, g3]); rfl)); (case q212 => exact fun _ _ _ h => h); (case w212 => rfl); (case y212 => (intro w' hSw; (try dsimp only at hSw); go_simp; (try with_reducible rfl))); (try simp only [Act.put, s1, s2, s3]))
        (refine wpAnyH_ready (rs := [1, 7]) (by kernel_rfl) (by simp) ?_; refine (AllReadyH.cons (o := ?o213) ?h213 (fun K hK => ?s213) (AllReadyH.cons (o := ?o214) ?h214 (fun K hK => ?s214) AllReadyH.nil)); (case h213 => (first | ((simp only [g1, g2, g3]); rfl) | rfl)); (case h214 => (first | ((simp only [g1, g2, g3]); rfl) | rfl)))
        (go_simp; (try dsimp only); refine hK.out _ _ ?_ (fun hHd => ?_); (focus ((try dsimp only); exact hHd)); clear hK K; (try simp only [Act.put, s1, s2, s3]))
        (refine wpAnyH_ready (rs := [7]) (by kernel_rfl) (by simp) ?_; refine AllReadyH.cons (o := ?o215) ?h215 (fun K hK => ?s215) AllReadyH.nil; (case h215 => (first | ((simp only [g1, g2, g3]); rfl) | rfl)); go_simp; (try dsimp only); refine hK.out _ _ ?_ (fun hHd => ?_); (focus ((try dsimp only); exact ⟨(show Kp w7 _ from (by (repeat (first | with_reducible assumption | with_reducible exact Kp.refl _ | with_reducible refine Kp.drew ?_ | with_reducible refine Kp.drewN ?_ _ | with_reducible refine Kp.alloc ?_ _ | ((with_reducible refine Kp.setCell ?_ ?_ _); rotate_left; (focus (first | omega | (simp; done) | (simp; omega)))) | with_reducible refine Kp.trans ?_ (by assumption))))).size, ((show Kp w7 _ from (by (repeat (first | with_reducible assumption | with_reducible exact Kp.refl _ | with_reducible refine Kp.drew ?_ | with_reducible refine Kp.drewN ?_ _ | with_reducible refine Kp.alloc ?_ _ | ((with_reducible refine Kp.setCell ?_ ?_ _); rotate_left; (focus (first | omega | (simp; done) | (simp; omega)))) | with_reducible refine Kp.trans ?_ (by assumption))))).cell (p := ⟨g, i + 1, none⟩) hgr7).trans hdy7⟩)); clear hK K; (try simp only [Act.put, s1, s2, s3]))
        (refine wpAnyH_ready (rs := [8]) (by kernel_rfl) (by simp) ?_; refine AllReadyH.cons (o := ?o216) ?h216 (fun K hK => ?s216) AllReadyH.nil; (case h216 => (first | ((simp only [g1, g2, g3]); rfl) | rfl)); (refine rowAppendX (.tmp 27) (.tmp 33) 44 ?ho217 Tryz.underlying44 infoSp rfl (by decide) (XL7.out.kp (show Kp w7 _ from (by (repeat (first | with_reducible assumption | with_reducible exact Kp.refl _ | with_reducible refine Kp.drew ?_ | with_reducible refine Kp.drewN ?_ _ | with_reducible refine Kp.alloc ?_ _ | ((with_reducible refine Kp.setCell ?_ ?_ _); rotate_left; (focus (first | omega | (simp; done) | (simp; omega)))) | with_reducible refine Kp.trans ?_ (by assumption)))))) ?hs217 (y := y) rfl (numOne y) (show Blk _ w7.heap.size (enc1 y) 23 from (by (repeat (first | with_reducible assumption | ((with_reducible refine Blk.newL ?_ ?_); (focus (first | (simp; done) | omega)); rfl) | with_reducible refine Blk.drew ?_ | with_reducible refine Blk.drewN ?_ _ | with_reducible refine Blk.alloc ?_ _ | ((with_reducible refine Blk.other ?_ ?_ _); rotate_left; (focus (first | with_reducible assumption | omega | (simp; done) | (simp; omega)))))))) ?hx217 ?hl217 ?hb217 ?hz217 ?_; (case ho217 => rfl); (case hs217 => rfl); (case hx217 => rfl); (case hl217 => unfold maxLen; omega); (case hb217 => omega); (case hz217 => exact Nat.le_trans HNZ7.out (show Kp w7 _ from (by (repeat (first | with_reducible assumption | with_reducible exact Kp.refl _ | with_reducible refine Kp.drew ?_ | with_reducible refine Kp.drewN ?_ _ | with_reducible refine Kp.alloc ?_ _ | ((with_reducible refine Kp.setCell ?_ ?_ _); rotate_left; (focus (first | omega | (simp; done) | (simp; omega)))) | with_reducible refine Kp.trans ?_ (by assumption))))).size); intro v' w8 hr8 hgb8 hloc8; obtain ⟨a8, c8, rfl, _⟩ := hr8.sl (fun _ => rfl); have hg8 : w7.grownBy w8 (Value.slice la E.length lc).ownBlock := grown_trans (show Kp w7 _ from (by (repeat (first | with_reducible assumption | with_reducible exact Kp.refl _ | with_reducible refine Kp.drew ?_ | with_reducible refine Kp.drewN ?_ _ | with_reducible refine Kp.alloc ?_ _ | ((with_reducible refine Kp.setCell ?_ ?_ _); rotate_left; (focus (first | omega | (simp; done) | (simp; omega)))) | with_reducible refine Kp.trans ?_ (by assumption))))).grownBy hgb8; have hgs8 := hg8.size; have hkg8 : w8.heap[g]? = w7.heap[g]? := hg8.block _ hgr7 (fun e => by have := (XL.out.lt _ e.symm).1; omega); have hB8 := XN7.out.grown1 hg8 (fun e => XLA.out _ e rfl); have e1 := hB8.cell 0 rfl; have f1 := hB8.free 0); refine hK.out _ _ ?_ (fun hHd => ?_); (focus ((try dsimp only); exact ⟨hgs8, (cell_heap hkg8 _).trans hdy7⟩)); clear hK K; (try simp only [Act.put]))
        (refine takeH (i := 9) (oi := ?o218) (v := ?v218) ?h218 (by kernel_rfl) ?q218 (Or.inl ⟨?w218, ?y218⟩) (by assumption) ?r218; (case h218 => ((simp only [g1, g2, g3]); rfl)); (case q218 => exact fun _ _ _ h => h); (case w218 => rfl); (case y218 => (intro w' hSw; (try dsimp only at hSw); go_simp; (try with_reducible rfl))); (try simp only [Act.put, s1, s2, s3]))
        (refine wpAnyH_ready (rs := [10]) (by kernel_rfl) (by simp) ?_; refine AllReadyH.cons (o := ?o219) ?h219 (fun K hK => ?s219) AllReadyH.nil; (case h219 => (first | ((simp only [g1, g2, g3]); rfl) | rfl)); go_simp; (try dsimp only); refine hK.out _ _ ?_ (fun hHd => ?_); (focus ((try dsimp only); exact ⟨by simpa using hgs8, (cell_heap (Below.heap_setCell _ _ _ _ (fun e => hN2 e.symm)) _).trans ((cell_heap hkg8 _).trans hdy7)⟩)); clear hK K; (try simp only [Act.put, s1, s2, s3]))
        refine wpAnyH_done (by kernel_rfl) ?_ _
        rotate_left
        (go_simp; (try dsimp only); refine hK.out _ _ ?_ (fun hHd => ?_); (focus ((try dsimp only); exact ⟨(show Kp w7 _ from (by (repeat (first | with_reducible assumption | with_reducible exact Kp.refl _ | with_reducible refine Kp.drew ?_ | with_reducible refine Kp.drewN ?_ _ | with_reducible refine Kp.alloc ?_ _ | ((with_reducible refine Kp.setCell ?_ ?_ _); rotate_left; (focus (first | omega | (simp; done) | (simp; omega)))) | with_reducible refine Kp.trans ?_ (by assumption))))).size, ((show Kp w7 _ from (by (repeat (first | with_reducible assumption | with_reducible exact Kp.refl _ | with_reducible refine Kp.drew ?_ | with_reducible refine Kp.drewN ?_ _ | with_reducible refine Kp.alloc ?_ _ | ((with_reducible refine Kp.setCell ?_ ?_ _); rotate_left; (focus (first | omega | (simp; done) | (simp; omega)))) | with_reducible refine Kp.trans ?_ (by assumption))))).cell (p := ⟨g, i + 1, none⟩) hgr7).trans hdy7⟩)); clear hK K; (try simp only [Act.put, s1, s2, s3]))
        (refine wpAnyH_ready (rs := [1]) (by kernel_rfl) (by simp) ?_; refine AllReadyH.cons (o := ?o220) ?h220 (fun K hK => ?s220) AllReadyH.nil; (case h220 => (first | ((simp only [g1, g2, g3]); rfl) | rfl)); go_simp; (try dsimp only); refine hK.out _ _ ?_ (fun hHd => ?_); (focus ((try dsimp only); exact hHd)); clear hK K; (try simp only [Act.put, s1, s2, s3]))
        (refine wpAnyH_ready (rs := [8]) (by kernel_rfl) (by simp) ?_; refine AllReadyH.cons (o := ?o221) ?h221 (fun K hK => ?s221) AllReadyH.nil; (case h221 => (first | ((simp only [g1, g2, g3]); rfl) | rfl)); (refine rowAppendX (.tmp 27) (.tmp 33) 44 ?ho222 Tryz.underlying44 infoSp rfl (by decide) (XL7.out.kp (show Kp w7 _ from (by (repeat (first | with_reducible assumption | with_reducible exact Kp.refl _ | with_reducible refine Kp.drew ?_ | with_reducible refine Kp.drewN ?_ _ | with_reducible refine Kp.alloc ?_ _ | ((with_reducible refine Kp.setCell ?_ ?_ _); rotate_left; (focus (first | omega | (simp; done) | (simp; omega)))) | with_reducible refine Kp.trans ?_ (by assumption)))))) ?hs222 (y := y) rfl (numOne y) (show Blk _ w7.heap.size (enc1 y) 23 from (by (repeat (first | with_reducible assumption | ((with_reducible refine Blk.newL ?_ ?_); (focus (first | (simp; done) | omega)); rfl) | with_reducible refine Blk.drew ?_ | with_reducible refine Blk.drewN ?_ _ | with_reducible refine Blk.alloc ?_ _ | ((with_reducible refine Blk.other ?_ ?_ _); rotate_left; (focus (first | with_reducible assumption | omega | (simp; done) | (simp; omega)))))))) ?hx222 ?hl222 ?hb222 ?hz222 ?_; (case ho222 => rfl); (case hs222 => rfl); (case hx222 => rfl); (case hl222 => unfold maxLen; omega); (case hb222 => omega); (case hz222 => exact Nat.le_trans HNZ7.out (show Kp w7 _ from (by (repeat (first | with_reducible assumption | with_reducible exact Kp.refl _ | with_reducible refine Kp.drew ?_ | with_reducible refine Kp.drewN ?_ _ | with_reducible refine Kp.alloc ?_ _ | ((with_reducible refine Kp.setCell ?_ ?_ _); rotate_left; (focus (first | omega | (simp; done) | (simp; omega)))) | with_reducible refine Kp.trans ?_ (by assumption))))).size); intro v' w8 hr8 hgb8 hloc8; obtain ⟨a8, c8, rfl, _⟩ := hr8.sl (fun _ => rfl); have hg8 : w7.grownBy w8 (Value.slice la E.length lc).ownBlock := grown_trans (show Kp w7 _ from (by (repeat (first | with_reducible assumption | with_reducible exact Kp.refl _ | with_reducible refine Kp.drew ?_ | with_reducible refine Kp.drewN ?_ _ | with_reducible refine Kp.alloc ?_ _ | ((with_reducible refine Kp.setCell ?_ ?_ _); rotate_left; (focus (first | omega | (simp; done) | (simp; omega)))) | with_reducible refine Kp.trans ?_ (by assumption))))).grownBy hgb8; have hgs8 := hg8.size; have hkg8 : w8.heap[g]? = w7.heap[g]? := hg8.block _ hgr7 (fun e => by have := (XL.out.lt _ e.symm).1; omega); have hB8 := XN7.out.grown1 hg8 (fun e => XLA.out _ e rfl); have e1 := hB8.cell 0 rfl; have f1 := hB8.free 0); refine hK.out _ _ ?_ (fun hHd => ?_); (focus ((try dsimp only); exact ⟨hgs8, (cell_heap hkg8 _).trans hdy7⟩)); clear hK K; (try simp only [Act.put]))
        (refine takeH (i := 9) (oi := ?o223) (v := ?v223) ?h223 (by kernel_rfl) ?q223 (Or.inl ⟨?w223, ?y223⟩) (by assumption) ?r223; (case h223 => ((simp only [g1, g2, g3]); rfl)); (case q223 => exact fun _ _ _ h => h); (case w223 => rfl); (case y223 => (intro w' hSw; (try dsimp only at hSw); go_simp; (try with_reducible rfl))); (try simp only [Act.put, s1, s2, s3]))
        (refine wpAnyH_ready (rs := [10]) (by kernel_rfl) (by simp) ?_; refine AllReadyH.cons (o := ?o224) ?h224 (fun K hK => ?s224) AllReadyH.nil; (case h224 => (first | ((simp only [g1, g2, g3]); rfl) | rfl)); go_simp; (try dsimp only); refine hK.out _ _ ?_ (fun hHd => ?_); (focus ((try dsimp only); exact ⟨by simpa using hgs8, (cell_heap (Below.heap_setCell _ _ _ _ (fun e => hN2 e.symm)) _).trans ((cell_heap hkg8 _).trans hdy7)⟩)); clear hK K; (try simp only [Act.put, s1, s2, s3]))
        refine wpAnyH_done (by kernel_rfl) ?_ _
        rotate_left
        all_goals
          have hB9 := hB8.set 0 (.slice a8 (E ++ [y]).length c8)
          have hl9 := row_away hr8 hB8 (by decide) 0 (.slice a8 (E ++ [y]).length c8)
          have hp9 := row_away (row_apart XP7.out XL7.out (by decide) hg8) hB8 (by decide) 0 (.slice a8 (E ++ [y]).length c8)
          have hres9 := (XRES7.out.grown1 hg8 (fun e => by have := (XL.out.lt _ e).1; omega)).other (a := ⟨w.heap.size + 1 + 1, 0, none⟩) (by show w.heap.size ≠ w.heap.size + 1 + 1; omega) (.slice a8 (E ++ [y]).length c8)
          have k9 : Kp w (w8.setCell ⟨w.heap.size + 1 + 1, 0, none⟩ (.slice a8 (E ++ [y]).length c8)) := (k7.grown1 hg8 fun b hb => by have := (XL.out.lt _ hb).1; omega).setCell (p := ⟨w.heap.size + 1 + 1, 0, none⟩) (by show w.heap.size ≤ w.heap.size + 1 + 1; omega) _
          have hla9 : ∀ b, (Value.slice a8 (E ++ [y]).length c8).ownBlock = some b → b ≠ w.heap.size + 1 + 1 := fun b hb => by
            rcases hloc8 with e | e
            · exact XLA.out b (e ▸ hb)
            · rw [e] at hb
              have := Option.some.inj hb
              intro e2
              rw [e2] at this
              simp at this
              omega
          have hEE : (E ++ [y]).length = E.length + 1 := by simp
          have hOO : (O ++ [x]).length = O.length + 1 := by simp
          rw [hEE] at hB9 hl9 hp9 hres9 k9 hla9
          have HEE := Lib.hid hEE
          have HOO := Lib.hid hOO
          clear hHd hEE hOO
          go_wp2_with fail
          go_roundw
          case rel =>
            refine ⟨i + 2, a8, a6, c8, c6, by omega, by omega, by go_num, hres9, ?_, ?_, ?_, ?_, ?_, k9⟩
            · rw [HN.out.1, HN.out.2, HEE.out, HOO.out]
              exact hB9
            · rw [HN.out.1, HEE.out]
              exact hl9
            · rw [HN.out.2, HOO.out]
              exact hp9
            · rw [HN.out.1, HEE.out]
              exact hla9
            · rw [HN.out.2, HOO.out]
              exact hpa7
          case measure => simp [intOf]; omega
    · have hiN : i = N := by have := HMM.out; omega
      have he : ns.take i = ns := List.take_of_length_le (by rw [HNN.out]; omega)
      rw [he] at hE hO
      have ji : decide ((i : Int) + 1 < (N : Int)) = false := decide_eq_false (by omega)
      have ji' : decide (i + 1 < N) = false := decide_eq_false (by omega)
      have HE := Lib.hid hE
      have HO := Lib.hid hO
      have r0 := xres.cell 0 rfl
      have r1 := xres.cell 1 rfl
      have f0 := xres.free 0
      have f1 := xres.free 1
      clear hE hO he xn htl hiN
      go_wp2_with fail
      have rr := (xres.set 0 (.slice la E.length lc)).set 1 (.slice pa O.length pc)
      refine bodyPost_ret (ret_cellRow rowNote Tryz.results70 rfl rfl rr) rfl ?_
      refine ⟨(by (repeat (first | with_reducible assumption | with_reducible exact Kp.refl _ | with_reducible refine Kp.drew ?_ | with_reducible refine Kp.drewN ?_ _ | with_reducible refine Kp.alloc ?_ _ | ((with_reducible refine Kp.setCell ?_ ?_ _); rotate_left; (focus (first | omega | (simp; done) | (simp; omega)))) | with_reducible refine Kp.trans ?_ (by assumption)))), la, lc, pa, pc, by rw [HE.out, HO.out]; rfl, ?_, ?_⟩
      · rw [HE.out]
        exact (row_away (row_away XL.out xres (by decide) 0 _) (xres.set 0 _) (by decide) 1 _).low (Nat.le_succ _)
      · rw [HO.out]
        exact (row_away (row_away XP.out xres (by decide) 0 _) (xres.set 0 _) (by decide) 1 _).low (Nat.le_succ _)
end Go.Proofs.YtaekeogaakogbaaGreatDoor
