/- A script's reader: items' lines. -/
import Derived.Test.YtaekeogaakogbaaGreatDoorJ4

namespace Go.Proofs.YtaekeogaakogbaaGreatDoor

open Go.ChangeShapes Go.WideShapes Go.ChangeAt Go.RowKit Go.Shelf

theorem mkBox_any (x0 x1 : Int) (w : World) : Calls Tryz.prog 71 #[.int .i64 x0, .int .i64 x1] w fun e w' => e = .returned (.agg #[.int .i64 1, .int .i64 x0, .int .i64 x1, .int .i64 0, .int .i64 0, .int .i64 0, .int .i64 0]) ∧ Kp w w' := by
  go_enter Tryz.func71, Tryz.ntmps71
  go_wp2_with fail
  exact bodyPost_ret (v := .agg #[.int .i64 1, .int .i64 x0, .int .i64 x1, .int .i64 0, .int .i64 0, .int .i64 0, .int .i64 0]) (by simp [results, Tryz.results71, go_sem]) rfl ⟨rfl, (by (repeat (first | with_reducible assumption | with_reducible exact Kp.refl _ | with_reducible refine Kp.drew ?_ | with_reducible refine Kp.drewN ?_ _ | with_reducible refine Kp.alloc ?_ _ | ((with_reducible refine Kp.setCell ?_ ?_ _); rotate_left; (focus (first | omega | (simp; done) | (simp; omega)))) | with_reducible refine Kp.trans ?_ (by assumption))))⟩
theorem mkGlue_any (x0 x1 x2 x3 : Int) (w : World) : Calls Tryz.prog 72 #[.int .i64 x0, .int .i64 x1, .int .i64 x2, .int .i64 x3] w fun e w' => e = .returned (.agg #[.int .i64 2, .int .i64 x0, .int .i64 0, .int .i64 x1, .int .i64 x2, .int .i64 x3, .int .i64 0]) ∧ Kp w w' := by
  go_enter Tryz.func72, Tryz.ntmps72
  go_wp2_with fail
  exact bodyPost_ret (v := .agg #[.int .i64 2, .int .i64 x0, .int .i64 0, .int .i64 x1, .int .i64 x2, .int .i64 x3, .int .i64 0]) (by simp [results, Tryz.results72, go_sem]) rfl ⟨rfl, (by (repeat (first | with_reducible assumption | with_reducible exact Kp.refl _ | with_reducible refine Kp.drew ?_ | with_reducible refine Kp.drewN ?_ _ | with_reducible refine Kp.alloc ?_ _ | ((with_reducible refine Kp.setCell ?_ ?_ _); rotate_left; (focus (first | omega | (simp; done) | (simp; omega)))) | with_reducible refine Kp.trans ?_ (by assumption))))⟩
theorem mkPen_any (x0 : Int) (w : World) : Calls Tryz.prog 88 #[.int .i64 x0] w fun e w' => e = .returned (.agg #[.int .i64 3, .int .i64 0, .int .i64 0, .int .i64 0, .int .i64 0, .int .i64 0, .int .i64 x0]) ∧ Kp w w' := by
  go_enter Tryz.func88, Tryz.ntmps88
  go_wp2_with fail
  exact bodyPost_ret (v := .agg #[.int .i64 3, .int .i64 0, .int .i64 0, .int .i64 0, .int .i64 0, .int .i64 0, .int .i64 x0]) (by simp [results, Tryz.results88, go_sem]) rfl ⟨rfl, (by (repeat (first | with_reducible assumption | with_reducible exact Kp.refl _ | with_reducible refine Kp.drew ?_ | with_reducible refine Kp.drewN ?_ _ | with_reducible refine Kp.alloc ?_ _ | ((with_reducible refine Kp.setCell ?_ ?_ _); rotate_left; (focus (first | omega | (simp; done) | (simp; omega)))) | with_reducible refine Kp.trans ?_ (by assumption))))⟩
theorem mkMark_any (x0 : Int) (w : World) : Calls Tryz.prog 89 #[.int .i64 x0] w fun e w' => e = .returned (.agg #[.int .i64 4, .int .i64 0, .int .i64 0, .int .i64 0, .int .i64 0, .int .i64 0, .int .i64 x0]) ∧ Kp w w' := by
  go_enter Tryz.func89, Tryz.ntmps89
  go_wp2_with fail
  exact bodyPost_ret (v := .agg #[.int .i64 4, .int .i64 0, .int .i64 0, .int .i64 0, .int .i64 0, .int .i64 0, .int .i64 x0]) (by simp [results, Tryz.results89, go_sem]) rfl ⟨rfl, (by (repeat (first | with_reducible assumption | with_reducible exact Kp.refl _ | with_reducible refine Kp.drew ?_ | with_reducible refine Kp.drewN ?_ _ | with_reducible refine Kp.alloc ?_ _ | ((with_reducible refine Kp.setCell ?_ ?_ _); rotate_left; (focus (first | omega | (simp; done) | (simp; omega)))) | with_reducible refine Kp.trans ?_ (by assumption))))⟩
theorem mkNote_any (x0 : Int) (w : World) : Calls Tryz.prog 90 #[.int .i64 x0] w fun e w' => e = .returned (.agg #[.int .i64 5, .int .i64 0, .int .i64 0, .int .i64 0, .int .i64 0, .int .i64 0, .int .i64 x0]) ∧ Kp w w' := by
  go_enter Tryz.func90, Tryz.ntmps90
  go_wp2_with fail
  exact bodyPost_ret (v := .agg #[.int .i64 5, .int .i64 0, .int .i64 0, .int .i64 0, .int .i64 0, .int .i64 0, .int .i64 x0]) (by simp [results, Tryz.results90, go_sem]) rfl ⟨rfl, (by (repeat (first | with_reducible assumption | with_reducible exact Kp.refl _ | with_reducible refine Kp.drew ?_ | with_reducible refine Kp.drewN ?_ _ | with_reducible refine Kp.alloc ?_ _ | ((with_reducible refine Kp.setCell ?_ ?_ _); rotate_left; (focus (first | omega | (simp; done) | (simp; omega)))) | with_reducible refine Kp.trans ?_ (by assumption))))⟩
theorem mkFloat_any (x0 : Int) (w : World) : Calls Tryz.prog 91 #[.int .i64 x0] w fun e w' => e = .returned (.agg #[.int .i64 6, .int .i64 0, .int .i64 0, .int .i64 0, .int .i64 0, .int .i64 0, .int .i64 x0]) ∧ Kp w w' := by
  go_enter Tryz.func91, Tryz.ntmps91
  go_wp2_with fail
  exact bodyPost_ret (v := .agg #[.int .i64 6, .int .i64 0, .int .i64 0, .int .i64 0, .int .i64 0, .int .i64 0, .int .i64 x0]) (by simp [results, Tryz.results91, go_sem]) rfl ⟨rfl, (by (repeat (first | with_reducible assumption | with_reducible exact Kp.refl _ | with_reducible refine Kp.drew ?_ | with_reducible refine Kp.drewN ?_ _ | with_reducible refine Kp.alloc ?_ _ | ((with_reducible refine Kp.setCell ?_ ?_ _); rotate_left; (focus (first | omega | (simp; done) | (simp; omega)))) | with_reducible refine Kp.trans ?_ (by assumption))))⟩
theorem mkBarrier_any (w : World) : Calls Tryz.prog 73 #[] w fun e w' => e = .returned (.agg #[.int .i64 7, .int .i64 0, .int .i64 0, .int .i64 0, .int .i64 0, .int .i64 0, .int .i64 0]) ∧ Kp w w' := by
  go_enter Tryz.func73, Tryz.ntmps73
  go_wp2_with fail
  exact bodyPost_ret (v := .agg #[.int .i64 7, .int .i64 0, .int .i64 0, .int .i64 0, .int .i64 0, .int .i64 0, .int .i64 0]) (by simp [results, Tryz.results73, go_sem]) rfl ⟨rfl, (by (repeat (first | with_reducible assumption | with_reducible exact Kp.refl _ | with_reducible refine Kp.drew ?_ | with_reducible refine Kp.drewN ?_ _ | with_reducible refine Kp.alloc ?_ _ | ((with_reducible refine Kp.setCell ?_ ?_ _); rotate_left; (focus (first | omega | (simp; done) | (simp; omega)))) | with_reducible refine Kp.trans ?_ (by assumption))))⟩
theorem Rdr.kp {w w' : World} {R base : Nat} {j : JobD} {next : Nat} (h : Rdr w R base j next) (k : Kp w w') : Rdr w' R base j next := by
  obtain ⟨iv, nv, fv, h1, h2⟩ := h
  exact ⟨iv, nv, fv, h1.kp k, h2.move (TypedJ.kp k)⟩
theorem Rdr.lt {w : World} {R base : Nat} {j : JobD} {next : Nat} (h : Rdr w R base j next) : R < w.heap.size := by
  obtain ⟨iv, nv, fv, h1, h2⟩ := h
  exact h1.lt
theorem notJt_i64 : ¬ Jt 2 := by unfold Jt; decide
/-- A line's numbers, as they lie. -/
theorem int_row {w : World} {B : Nat} {a : Option Addr} {m c : Nat} {ns : List Int} (h : Row w B 2 1 enc1 (.slice a m c) ns) (hn : 0 < ns.length) : ∃ g, a = some ⟨g, 0, none⟩ ∧ g < w.heap.size ∧ m = ns.length ∧ m ≤ c ∧ c ≤ 9223372036854775807 ∧ (∀ (i : Nat) n, ns[i]? = some n → w.cell? ⟨g, i, none⟩ = some (.int .i64 n)) ∧ ∃ cs, w.heap[g]? = some (Obj.cells cs 2 (0, 0)) := by
  obtain ⟨g, c', e, _, hg, h1, h2⟩ := h.shape hn
  simp only [Value.slice.injEq] at e
  obtain ⟨rfl, rfl, rfl⟩ := e
  unfold maxLen at h2
  obtain ⟨cs, hc⟩ := h.type (g := g) rfl
  refine ⟨g, rfl, hg, rfl, h1, by omega, fun i n hi => ?_, cs, hc⟩
  obtain ⟨a', c'', e, hs⟩ := h.sl (fun _ => rfl)
  simp only [Value.slice.injEq] at e
  obtain ⟨rfl, -, rfl⟩ := e
  rcases hs.2.2.2 with e | ⟨b, o, e, _, r⟩
  · rw [e] at hn; cases hn
  · simp only [Option.some.injEq, Addr.mk.injEq] at e
    obtain ⟨rfl, rfl, -⟩ := e
    have := r i n hi 0 _ rfl
    simpa using this
theorem KeepJ.cell {W : World} {R : Nat} {w a : World} (h : KeepJ W R w a) {g : Nat} {cs : Array Value} {t : TypeId} (hg : w.heap[g]? = some (Obj.cells cs t (0, 0))) (ht : ¬ Jt t) (hn : g ≠ R) (o : Nat) : a.cell? ⟨g, o, none⟩ = w.cell? ⟨g, o, none⟩ := cell_heap (h.2.2 g cs t hg ht hn) o
theorem Rdr.ne {w : World} {R base : Nat} {j : JobD} {next : Nat} (h : Rdr w R base j next) {g : Nat} {cs : Array Value} {t : TypeId} (hg : w.heap[g]? = some (Obj.cells cs t (0, 0))) (ht : t ≠ 50) : g ≠ R := fun e => by
  obtain ⟨iv, nv, fv, h1, h2⟩ := h
  rw [e, h1.heap] at hg
  cases hg
  exact ht rfl
set_option maxRecDepth 100000 in
set_option maxHeartbeats 4000000 in
theorem verb_box (W : World) (R : Nat) (j : JobD) (next : Nat) (B : Nat) (a : Option Addr) (c : Nat) (x0 x1 : Int) (w1 : World) (k1 : Kp W w1) (hWR : W.heap.size ≤ R) (h : Rdr w1 R W.heap.size j next) (hgl : j.g.length = 18) (hl : j.items.length ≤ 1000000) (hr : Row w1 B 2 1 enc1 (.slice a 2 c) [x0, x1]) :
    Calls Tryz.prog 59 #[.pointer (some ⟨R, 0, none⟩), .slice a 2 c] w1 fun e w2 => e = .returned (.tuple #[]) ∧ Rdr w2 R W.heap.size { j with items := j.items ++ [⟨1, x0, x1, 0, 0, 0, 0⟩] } next ∧ KeepJ W R w1 w2 := by
  obtain ⟨g, rfl, hg, -, hmc, hcm, hcell, cs, hcs⟩ := int_row hr (by simp)
  have hgR := h.ne hcs (by decide)
  have d0 := hcell 0 x0 rfl
  have d1 := hcell 1 x1 rfl
  have HR := Lib.hid h
  have HCS := Lib.hid hcs
  clear hr hcell h hcs
  go_enter Tryz.func59, Tryz.ntmps59
  go_wp2_with fail
  (refine wp_region_held_drew (S := (fun w' => w'.cell? ⟨g, 0, none⟩ = some (.int .i64 x0) ∧ w'.cell? ⟨g, 1, none⟩ = some (.int .i64 x1))) (by kernel_rfl) ?_ (fun hHd => ?_); (focus ((try dsimp only); exact ⟨d0, d1⟩)))
  (refine takeH (i := 0) (oi := ?o46) (v := ?v46) ?h46 (by kernel_rfl) ?q46 (Or.inl ⟨?w46, ?y46⟩) (by assumption) ?r46; (case h46 => ((simp only [g1, g3]); rfl)); (case q46 => exact fun _ _ _ h => h); (case w46 => rfl); (case y46 => (intro w' hSw; (try dsimp only at hSw); go_simp; (try with_reducible rfl))); (try simp only [Act.put, s1, s2, s3]))
  (refine takeH (i := 1) (oi := ?o47) (v := ?v47) ?h47 (by kernel_rfl) ?q47 (Or.inl ⟨?w47, ?y47⟩) (by assumption) ?r47; (case h47 => ((simp only [g1, g2, g3]); rfl)); (case q47 => exact fun _ _ _ h => h); (case w47 => rfl); (case y47 => (intro w' hSw; (try dsimp only at hSw); go_simp; (try with_reducible rfl))); (try simp only [Act.put, s1, s2, s3]))
  (refine takeH (i := 2) (oi := ?o48) (v := ?v48) ?h48 (by kernel_rfl) ?q48 (Or.inl ⟨?w48, ?y48⟩) (by assumption) ?r48; (case h48 => ((simp only [g1, g2, g3]); rfl)); (case q48 => exact fun _ _ _ h => h); (case w48 => rfl); (case y48 => (intro w' hSw; (try dsimp only at hSw); go_simp; (try with_reducible rfl))); (try simp only [Act.put, s1, s2, s3]))
  (refine takeH (i := 3) (oi := ?o49) (v := ?v49) ?h49 (by kernel_rfl) ?q49 (Or.inl ⟨?w49, ?y49⟩) (by assumption) ?r49; (case h49 => ((simp only [g1, g2, g3]); rfl)); (case q49 => exact fun _ _ _ h => h); (case w49 => rfl); (case y49 => (intro w' hSw; (try dsimp only at hSw); go_simp; (try with_reducible rfl))); (try simp only [Act.put, s1, s2, s3]))
  (refine takeH (i := 4) (oi := ?o50) (v := ?v50) ?h50 (by kernel_rfl) ?q50 (Or.inl ⟨?w50, ?y50⟩) (by assumption) ?r50; (case h50 => ((simp only [g1, g2, g3]); rfl)); (case q50 => exact fun _ _ _ h => h); (case w50 => rfl); (case y50 => (intro w' hSw; (try dsimp only at hSw); go_simp; (try with_reducible rfl))); (try simp only [Act.put, s1, s2, s3]))
  (refine takeH (i := 5) (oi := ?o51) (v := ?v51) ?h51 (by kernel_rfl) ?q51 (Or.inl ⟨?w51, ?y51⟩) (by assumption) ?r51; (case h51 => ((simp only [g1, g2, g3]); rfl)); (case q51 => exact fun _ _ _ h => h); (case w51 => rfl); (case y51 => (intro w' hSw; (try dsimp only at hSw); go_simp; (try with_reducible rfl))); (try simp only [Act.put, s1, s2, s3]))
  (refine takeH (i := 6) (oi := ?o52) (v := ?v52) ?h52 (by kernel_rfl) ?q52 (Or.inl ⟨?w52, ?y52⟩) (by assumption) ?r52; (case h52 => ((simp only [g1, g2, g3]); rfl)); (case q52 => exact fun _ _ _ h => h); (case w52 => rfl); (case y52 => (intro w' hSw; (try dsimp only at hSw); go_simp; (try with_reducible rfl))); (try simp only [Act.put, s1, s2, s3]))
  (refine wpAnyH_ready (rs := [7]) (by kernel_rfl) (by simp) ?_; refine AllReadyH.cons (o := ?o53) ?h53 (fun K hK => ?s53) AllReadyH.nil; (case h53 => (first | ((simp only [g1, g2, g3]); rfl) | rfl)); (go_simp; go_at_call 71; refine (mkBox_any x0 x1 _).mono ?_; rintro e w3 ⟨rfl, kk⟩; (try dsimp only); have kw3 : Kp w1 w3 := (show Kp w1 _ from (by (repeat (first | with_reducible assumption | with_reducible exact Kp.refl _ | with_reducible refine Kp.drew ?_ | with_reducible refine Kp.drewN ?_ _ | with_reducible refine Kp.alloc ?_ _ | ((with_reducible refine Kp.setCell ?_ ?_ _); rotate_left; (focus (first | omega | (simp; done) | (simp; omega)))) | with_reducible refine Kp.trans ?_ (by assumption))))).trans kk); refine hK.out _ _ ?_ (fun hHd => ?_); (focus ((try dsimp only); exact ⟨(kw3.cell (p := ⟨g, 0, none⟩) hg).trans d0, (kw3.cell (p := ⟨g, 1, none⟩) hg).trans d1⟩)); clear hK K; (try simp only [Act.put]))
  (refine wpAnyH_ready (rs := [8]) (by kernel_rfl) (by simp) ?_; refine AllReadyH.cons (o := ?o55) ?h55 (fun K hK => ?s55) AllReadyH.nil; (case h55 => (first | ((simp only [g1, g2, g3]); rfl) | rfl)); (go_simp; go_at_call 87; refine (put_any W R j next ⟨1, x0, x1, 0, 0, 0, 0⟩ _ (k1.trans kw3) hWR (HR.out.kp kw3) hgl hl).mono ?_; rintro e w4 ⟨rfl, hR4, hK4⟩; (try dsimp only); have hKK := ((KeepJ.refl R k1).kp kw3).trans hK4); refine hK.out _ _ ?_ (fun hHd => ?_); (focus ((try dsimp only); exact ⟨(hKK.cell HCS.out notJt_i64 hgR 0).trans d0, (hKK.cell HCS.out notJt_i64 hgR 1).trans d1⟩)); clear hK K; (try simp only [Act.put]))
  refine wpAnyH_done (by kernel_rfl) ?_ _
  go_wp2_with fail
  exact ⟨rfl, .tuple #[], (by simp [results, Tryz.results59, go_sem]), rfl, hR4, hKK⟩
set_option maxRecDepth 100000 in
set_option maxHeartbeats 4000000 in
theorem verb_glue (W : World) (R : Nat) (j : JobD) (next : Nat) (B : Nat) (a : Option Addr) (c : Nat) (x0 x1 x2 x3 : Int) (w1 : World) (k1 : Kp W w1) (hWR : W.heap.size ≤ R) (h : Rdr w1 R W.heap.size j next) (hgl : j.g.length = 18) (hl : j.items.length ≤ 1000000) (hr : Row w1 B 2 1 enc1 (.slice a 4 c) [x0, x1, x2, x3]) :
    Calls Tryz.prog 60 #[.pointer (some ⟨R, 0, none⟩), .slice a 4 c] w1 fun e w2 => e = .returned (.tuple #[]) ∧ Rdr w2 R W.heap.size { j with items := j.items ++ [⟨2, x0, 0, x1, x2, x3, 0⟩] } next ∧ KeepJ W R w1 w2 := by
  obtain ⟨g, rfl, hg, -, hmc, hcm, hcell, cs, hcs⟩ := int_row hr (by simp)
  have hgR := h.ne hcs (by decide)
  have d0 := hcell 0 x0 rfl
  have d1 := hcell 1 x1 rfl
  have d2 := hcell 2 x2 rfl
  have d3 := hcell 3 x3 rfl
  have HR := Lib.hid h
  have HCS := Lib.hid hcs
  clear hr hcell h hcs
  go_enter Tryz.func60, Tryz.ntmps60
  go_wp2_with fail
  (refine wp_region_held_drew (S := (fun w' => w'.cell? ⟨g, 0, none⟩ = some (.int .i64 x0) ∧ w'.cell? ⟨g, 1, none⟩ = some (.int .i64 x1) ∧ w'.cell? ⟨g, 2, none⟩ = some (.int .i64 x2) ∧ w'.cell? ⟨g, 3, none⟩ = some (.int .i64 x3))) (by kernel_rfl) ?_ (fun hHd => ?_); (focus ((try dsimp only); exact ⟨d0, d1, d2, d3⟩)))
  (refine takeH (i := 0) (oi := ?o57) (v := ?v57) ?h57 (by kernel_rfl) ?q57 (Or.inl ⟨?w57, ?y57⟩) (by assumption) ?r57; (case h57 => ((simp only [g1, g3]); rfl)); (case q57 => exact fun _ _ _ h => h); (case w57 => rfl); (case y57 => (intro w' hSw; (try dsimp only at hSw); go_simp; (try with_reducible rfl))); (try simp only [Act.put, s1, s2, s3]))
  (refine takeH (i := 1) (oi := ?o58) (v := ?v58) ?h58 (by kernel_rfl) ?q58 (Or.inl ⟨?w58, ?y58⟩) (by assumption) ?r58; (case h58 => ((simp only [g1, g2, g3]); rfl)); (case q58 => exact fun _ _ _ h => h); (case w58 => rfl); (case y58 => (intro w' hSw; (try dsimp only at hSw); go_simp; (try with_reducible rfl))); (try simp only [Act.put, s1, s2, s3]))
  (refine takeH (i := 2) (oi := ?o59) (v := ?v59) ?h59 (by kernel_rfl) ?q59 (Or.inl ⟨?w59, ?y59⟩) (by assumption) ?r59; (case h59 => ((simp only [g1, g2, g3]); rfl)); (case q59 => exact fun _ _ _ h => h); (case w59 => rfl); (case y59 => (intro w' hSw; (try dsimp only at hSw); go_simp; (try with_reducible rfl))); (try simp only [Act.put, s1, s2, s3]))
  (refine takeH (i := 3) (oi := ?o60) (v := ?v60) ?h60 (by kernel_rfl) ?q60 (Or.inl ⟨?w60, ?y60⟩) (by assumption) ?r60; (case h60 => ((simp only [g1, g2, g3]); rfl)); (case q60 => exact fun _ _ _ h => h); (case w60 => rfl); (case y60 => (intro w' hSw; (try dsimp only at hSw); go_simp; (try with_reducible rfl))); (try simp only [Act.put, s1, s2, s3]))
  (refine takeH (i := 4) (oi := ?o61) (v := ?v61) ?h61 (by kernel_rfl) ?q61 (Or.inl ⟨?w61, ?y61⟩) (by assumption) ?r61; (case h61 => ((simp only [g1, g2, g3]); rfl)); (case q61 => exact fun _ _ _ h => h); (case w61 => rfl); (case y61 => (intro w' hSw; (try dsimp only at hSw); go_simp; (try with_reducible rfl))); (try simp only [Act.put, s1, s2, s3]))
  (refine takeH (i := 5) (oi := ?o62) (v := ?v62) ?h62 (by kernel_rfl) ?q62 (Or.inl ⟨?w62, ?y62⟩) (by assumption) ?r62; (case h62 => ((simp only [g1, g2, g3]); rfl)); (case q62 => exact fun _ _ _ h => h); (case w62 => rfl); (case y62 => (intro w' hSw; (try dsimp only at hSw); go_simp; (try with_reducible rfl))); (try simp only [Act.put, s1, s2, s3]))
  (refine takeH (i := 6) (oi := ?o63) (v := ?v63) ?h63 (by kernel_rfl) ?q63 (Or.inl ⟨?w63, ?y63⟩) (by assumption) ?r63; (case h63 => ((simp only [g1, g2, g3]); rfl)); (case q63 => exact fun _ _ _ h => h); (case w63 => rfl); (case y63 => (intro w' hSw; (try dsimp only at hSw); go_simp; (try with_reducible rfl))); (try simp only [Act.put, s1, s2, s3]))
  (refine takeH (i := 7) (oi := ?o64) (v := ?v64) ?h64 (by kernel_rfl) ?q64 (Or.inl ⟨?w64, ?y64⟩) (by assumption) ?r64; (case h64 => ((simp only [g1, g2, g3]); rfl)); (case q64 => exact fun _ _ _ h => h); (case w64 => rfl); (case y64 => (intro w' hSw; (try dsimp only at hSw); go_simp; (try with_reducible rfl))); (try simp only [Act.put, s1, s2, s3]))
  (refine takeH (i := 8) (oi := ?o65) (v := ?v65) ?h65 (by kernel_rfl) ?q65 (Or.inl ⟨?w65, ?y65⟩) (by assumption) ?r65; (case h65 => ((simp only [g1, g2, g3]); rfl)); (case q65 => exact fun _ _ _ h => h); (case w65 => rfl); (case y65 => (intro w' hSw; (try dsimp only at hSw); go_simp; (try with_reducible rfl))); (try simp only [Act.put, s1, s2, s3]))
  (refine takeH (i := 9) (oi := ?o66) (v := ?v66) ?h66 (by kernel_rfl) ?q66 (Or.inl ⟨?w66, ?y66⟩) (by assumption) ?r66; (case h66 => ((simp only [g1, g2, g3]); rfl)); (case q66 => exact fun _ _ _ h => h); (case w66 => rfl); (case y66 => (intro w' hSw; (try dsimp only at hSw); go_simp; (try with_reducible rfl))); (try simp only [Act.put, s1, s2, s3]))
  (refine takeH (i := 10) (oi := ?o67) (v := ?v67) ?h67 (by kernel_rfl) ?q67 (Or.inl ⟨?w67, ?y67⟩) (by assumption) ?r67; (case h67 => ((simp only [g1, g2, g3]); rfl)); (case q67 => exact fun _ _ _ h => h); (case w67 => rfl); (case y67 => (intro w' hSw; (try dsimp only at hSw); go_simp; (try with_reducible rfl))); (try simp only [Act.put, s1, s2, s3]))
  (refine takeH (i := 11) (oi := ?o68) (v := ?v68) ?h68 (by kernel_rfl) ?q68 (Or.inl ⟨?w68, ?y68⟩) (by assumption) ?r68; (case h68 => ((simp only [g1, g2, g3]); rfl)); (case q68 => exact fun _ _ _ h => h); (case w68 => rfl); (case y68 => (intro w' hSw; (try dsimp only at hSw); go_simp; (try with_reducible rfl))); (try simp only [Act.put, s1, s2, s3]))
  (refine takeH (i := 12) (oi := ?o69) (v := ?v69) ?h69 (by kernel_rfl) ?q69 (Or.inl ⟨?w69, ?y69⟩) (by assumption) ?r69; (case h69 => ((simp only [g1, g2, g3]); rfl)); (case q69 => exact fun _ _ _ h => h); (case w69 => rfl); (case y69 => (intro w' hSw; (try dsimp only at hSw); go_simp; (try with_reducible rfl))); (try simp only [Act.put, s1, s2, s3]))
  (refine wpAnyH_ready (rs := [13]) (by kernel_rfl) (by simp) ?_; refine AllReadyH.cons (o := ?o70) ?h70 (fun K hK => ?s70) AllReadyH.nil; (case h70 => (first | ((simp only [g1, g2, g3]); rfl) | rfl)); (go_simp; go_at_call 72; refine (mkGlue_any x0 x1 x2 x3 _).mono ?_; rintro e w3 ⟨rfl, kk⟩; (try dsimp only); have kw3 : Kp w1 w3 := (show Kp w1 _ from (by (repeat (first | with_reducible assumption | with_reducible exact Kp.refl _ | with_reducible refine Kp.drew ?_ | with_reducible refine Kp.drewN ?_ _ | with_reducible refine Kp.alloc ?_ _ | ((with_reducible refine Kp.setCell ?_ ?_ _); rotate_left; (focus (first | omega | (simp; done) | (simp; omega)))) | with_reducible refine Kp.trans ?_ (by assumption))))).trans kk); refine hK.out _ _ ?_ (fun hHd => ?_); (focus ((try dsimp only); exact ⟨(kw3.cell (p := ⟨g, 0, none⟩) hg).trans d0, (kw3.cell (p := ⟨g, 1, none⟩) hg).trans d1, (kw3.cell (p := ⟨g, 2, none⟩) hg).trans d2, (kw3.cell (p := ⟨g, 3, none⟩) hg).trans d3⟩)); clear hK K; (try simp only [Act.put]))
  (refine wpAnyH_ready (rs := [14]) (by kernel_rfl) (by simp) ?_; refine AllReadyH.cons (o := ?o72) ?h72 (fun K hK => ?s72) AllReadyH.nil; (case h72 => (first | ((simp only [g1, g2, g3]); rfl) | rfl)); (go_simp; go_at_call 87; refine (put_any W R j next ⟨2, x0, 0, x1, x2, x3, 0⟩ _ (k1.trans kw3) hWR (HR.out.kp kw3) hgl hl).mono ?_; rintro e w4 ⟨rfl, hR4, hK4⟩; (try dsimp only); have hKK := ((KeepJ.refl R k1).kp kw3).trans hK4); refine hK.out _ _ ?_ (fun hHd => ?_); (focus ((try dsimp only); exact ⟨(hKK.cell HCS.out notJt_i64 hgR 0).trans d0, (hKK.cell HCS.out notJt_i64 hgR 1).trans d1, (hKK.cell HCS.out notJt_i64 hgR 2).trans d2, (hKK.cell HCS.out notJt_i64 hgR 3).trans d3⟩)); clear hK K; (try simp only [Act.put]))
  refine wpAnyH_done (by kernel_rfl) ?_ _
  go_wp2_with fail
  exact ⟨rfl, .tuple #[], (by simp [results, Tryz.results60, go_sem]), rfl, hR4, hKK⟩
set_option maxRecDepth 100000 in
set_option maxHeartbeats 4000000 in
theorem verb_pen (W : World) (R : Nat) (j : JobD) (next : Nat) (B : Nat) (a : Option Addr) (c : Nat) (x0 : Int) (w1 : World) (k1 : Kp W w1) (hWR : W.heap.size ≤ R) (h : Rdr w1 R W.heap.size j next) (hgl : j.g.length = 18) (hl : j.items.length ≤ 1000000) (hr : Row w1 B 2 1 enc1 (.slice a 1 c) [x0]) :
    Calls Tryz.prog 61 #[.pointer (some ⟨R, 0, none⟩), .slice a 1 c] w1 fun e w2 => e = .returned (.tuple #[]) ∧ Rdr w2 R W.heap.size { j with items := j.items ++ [⟨3, 0, 0, 0, 0, 0, x0⟩] } next ∧ KeepJ W R w1 w2 := by
  obtain ⟨g, rfl, hg, -, hmc, hcm, hcell, cs, hcs⟩ := int_row hr (by simp)
  have hgR := h.ne hcs (by decide)
  have d0 := hcell 0 x0 rfl
  have HR := Lib.hid h
  have HCS := Lib.hid hcs
  clear hr hcell h hcs
  go_enter Tryz.func61, Tryz.ntmps61
  go_wp2_with fail
  refine (mkPen_any x0 _).mono ?_
  rintro e w3 ⟨rfl, kk⟩
  have kw3 : Kp w1 w3 := ((by (repeat (first | with_reducible assumption | with_reducible exact Kp.refl _ | with_reducible refine Kp.drew ?_ | with_reducible refine Kp.drewN ?_ _ | with_reducible refine Kp.alloc ?_ _ | ((with_reducible refine Kp.setCell ?_ ?_ _); rotate_left; (focus (first | omega | (simp; done) | (simp; omega)))) | with_reducible refine Kp.trans ?_ (by assumption)))) : Kp w1 _).trans kk
  go_wp2_with fail
  refine (put_any W R j next ⟨3, 0, 0, 0, 0, 0, x0⟩ _ (k1.trans kw3) hWR (HR.out.kp kw3) hgl hl).mono ?_
  rintro e w4 ⟨rfl, hR4, hK4⟩
  go_wp2_with fail
  exact ⟨rfl, .tuple #[], (by simp [results, Tryz.results61, go_sem]), rfl, hR4, ((KeepJ.refl R k1).kp kw3).trans hK4⟩
set_option maxRecDepth 100000 in
set_option maxHeartbeats 4000000 in
theorem verb_mark (W : World) (R : Nat) (j : JobD) (next : Nat) (B : Nat) (a : Option Addr) (c : Nat) (x0 : Int) (w1 : World) (k1 : Kp W w1) (hWR : W.heap.size ≤ R) (h : Rdr w1 R W.heap.size j next) (hgl : j.g.length = 18) (hl : j.items.length ≤ 1000000) (hr : Row w1 B 2 1 enc1 (.slice a 1 c) [x0]) :
    Calls Tryz.prog 62 #[.pointer (some ⟨R, 0, none⟩), .slice a 1 c] w1 fun e w2 => e = .returned (.tuple #[]) ∧ Rdr w2 R W.heap.size { j with items := j.items ++ [⟨4, 0, 0, 0, 0, 0, x0⟩] } next ∧ KeepJ W R w1 w2 := by
  obtain ⟨g, rfl, hg, -, hmc, hcm, hcell, cs, hcs⟩ := int_row hr (by simp)
  have hgR := h.ne hcs (by decide)
  have d0 := hcell 0 x0 rfl
  have HR := Lib.hid h
  have HCS := Lib.hid hcs
  clear hr hcell h hcs
  go_enter Tryz.func62, Tryz.ntmps62
  go_wp2_with fail
  refine (mkMark_any x0 _).mono ?_
  rintro e w3 ⟨rfl, kk⟩
  have kw3 : Kp w1 w3 := ((by (repeat (first | with_reducible assumption | with_reducible exact Kp.refl _ | with_reducible refine Kp.drew ?_ | with_reducible refine Kp.drewN ?_ _ | with_reducible refine Kp.alloc ?_ _ | ((with_reducible refine Kp.setCell ?_ ?_ _); rotate_left; (focus (first | omega | (simp; done) | (simp; omega)))) | with_reducible refine Kp.trans ?_ (by assumption)))) : Kp w1 _).trans kk
  go_wp2_with fail
  refine (put_any W R j next ⟨4, 0, 0, 0, 0, 0, x0⟩ _ (k1.trans kw3) hWR (HR.out.kp kw3) hgl hl).mono ?_
  rintro e w4 ⟨rfl, hR4, hK4⟩
  go_wp2_with fail
  exact ⟨rfl, .tuple #[], (by simp [results, Tryz.results62, go_sem]), rfl, hR4, ((KeepJ.refl R k1).kp kw3).trans hK4⟩
set_option maxRecDepth 100000 in
set_option maxHeartbeats 4000000 in
theorem verb_barrier (W : World) (R : Nat) (j : JobD) (next : Nat) (v : Value) (w1 : World) (k1 : Kp W w1) (hWR : W.heap.size ≤ R) (h : Rdr w1 R W.heap.size j next) (hgl : j.g.length = 18) (hl : j.items.length ≤ 1000000) :
    Calls Tryz.prog 65 #[.pointer (some ⟨R, 0, none⟩), v] w1 fun e w2 => e = .returned (.tuple #[]) ∧ Rdr w2 R W.heap.size { j with items := j.items ++ [⟨7, 0, 0, 0, 0, 0, 0⟩] } next ∧ KeepJ W R w1 w2 := by
  have HR := Lib.hid h
  clear h
  go_enter Tryz.func65, Tryz.ntmps65
  go_wp2_with fail
  refine (mkBarrier_any _).mono ?_
  rintro e w3 ⟨rfl, kk⟩
  have kw3 : Kp w1 w3 := ((by (repeat (first | with_reducible assumption | with_reducible exact Kp.refl _ | with_reducible refine Kp.drew ?_ | with_reducible refine Kp.drewN ?_ _ | with_reducible refine Kp.alloc ?_ _ | ((with_reducible refine Kp.setCell ?_ ?_ _); rotate_left; (focus (first | omega | (simp; done) | (simp; omega)))) | with_reducible refine Kp.trans ?_ (by assumption)))) : Kp w1 _).trans kk
  go_wp2_with fail
  refine (put_any W R j next ⟨7, 0, 0, 0, 0, 0, 0⟩ _ (k1.trans kw3) hWR (HR.out.kp kw3) hgl hl).mono ?_
  rintro e w4 ⟨rfl, hR4, hK4⟩
  go_wp2_with fail
  exact ⟨rfl, .tuple #[], (by simp [results, Tryz.results65, go_sem]), rfl, hR4, ((KeepJ.refl R k1).kp kw3).trans hK4⟩
end Go.Proofs.YtaekeogaakogbaaGreatDoor
