/- Part 17 of the proof: The document's Read, of any text. A range over a function: small words for both sides. All things of pages, one after the other: the iterator's contract. Whether pages are the same: the document's. -/
import Derived.Test.YteadhacoglcbfaaDoorZ16
import Derived.RangeFuncNested
import Derived.RangeFuncBound
import Derived.RangeFuncCalls
import Derived.RangeFuncLeaves
import Derived.Shelf.Abstract
import Derived.Shelf.RegionOpen
import Derived.WalkKit
import Derived.OwnWalkIn
import Derived.TacticsInMore
import Derived.LoopNIn
import Derived.LoopIn
import Derived.OrdersIn
import Derived.OrdersHeld
import Derived.Laws.StructEq
namespace Go.Proofs.YteadhacoglcbfaaDoor

open Go.ChangeShapes Go.WideShapes Go.ChangeAt Go.RowKit Go.Shelf

theorem cut_here {s : List UInt8} {n fr i : Nat} (h : restK s n = s.drop fr) (hf : fr ≤ i) (h10 : (10 : UInt8) ∉ (s.take i).drop fr) (hc : s[i]? = some 10) : Lib.cut (restK s n) [10] = ((s.take i).drop fr, s.drop (i + 1), true) := by
  have hi := (List.getElem?_eq_some_iff.1 hc).1
  have e : s.drop fr = (s.take i).drop fr ++ 10 :: s.drop (i + 1) := by
    conv => lhs; rw [← List.take_append_drop i s]
    rw [List.drop_append_of_le_length (by rw [List.length_take]; omega), List.drop_eq_getElem_cons hi, (List.getElem?_eq_some_iff.1 hc).2]
  rw [h, e, cut10_at _ _ h10]
/-- What the document reads of a text. -/
def RefEnd (s : List UInt8) (W : World) (e : Ending) (w' : World) : Prop := Kp W w' ∧ ∃ N, (∀ j, j < N → Good s j) ∧ ¬ Good s N ∧
  ((restK s N = [] ∧ ∃ ds v, dsK s N = some ds ∧ e = .returned (.agg #[v, .int .i64 0, .bool true]) ∧ Rep w' W.heap.size v ds) ∨ (restK s N ≠ [] ∧ e = .returned (.agg #[.slice none 0 0, .int .i64 ((N : Int) + 1), .bool false])))
set_option maxRecDepth 100000 in
set_option maxHeartbeats 8000000 in
theorem refRead51_any (s : List UInt8) (hs : s.length ≤ 2000) (w : World) : Calls Tryd.prog 8 #[sv s] w (RefEnd s w) := by
  go_enter Tryd.func8, Tryd.ntmps8
  go_wp2_with fail
  go_loopw [4, 5, 6] (fun v4 v5 v6 wr => ∃ (i fr n : Nat) (ds : List PgD) (a : Option Addr) (m c : Nat), i ≤ s.length ∧ v6 = .int .i64 (i : Int) ∧ v4 = .int .i64 (fr : Int) ∧ v5 = .int .i64 (n : Int) ∧ fr ≤ i ∧ n ≤ i ∧ (10 : UInt8) ∉ (s.take i).drop fr ∧ restK s n = s.drop fr ∧ (∀ j, j < n → Good s j) ∧ dsK s n = some ds ∧
    Blk wr w.heap.size [.slice none 0 0, .int .i64 0, .bool false] 27 ∧ Blk wr (w.heap.size + 1) [.slice a m c, .int .i64 0, .bool true] 27 ∧ Rep wr w.heap.size (.slice a m c) ds ∧ Kp w wr) (fun _ _ v6 _ => s.length - (intOf v6).toNat)
  case atStart => exact ⟨0, 0, 0, [], none, 0, 0, Nat.zero_le _, rfl, rfl, rfl, Nat.le_refl _, Nat.le_refl _, by simp, rfl, fun j hj => by omega, rfl, (by (repeat (first | with_reducible assumption | ((with_reducible refine Blk.newL ?_ ?_); (focus (first | (simp; done) | omega)); rfl) | with_reducible refine Blk.drew ?_ | with_reducible refine Blk.drewN ?_ _ | with_reducible refine Blk.alloc ?_ _ | ((with_reducible refine Blk.other ?_ ?_ _); rotate_left; (focus (first | with_reducible assumption | omega | (simp; done) | (simp; omega))))))), (by (repeat (first | with_reducible assumption | ((with_reducible refine Blk.newL ?_ ?_); (focus (first | (simp; done) | omega)); rfl) | with_reducible refine Blk.drew ?_ | with_reducible refine Blk.drewN ?_ _ | with_reducible refine Blk.alloc ?_ _ | ((with_reducible refine Blk.other ?_ ?_ _); rotate_left; (focus (first | with_reducible assumption | omega | (simp; done) | (simp; omega))))))), rep_nil _ _, (by (repeat (first | with_reducible assumption | with_reducible exact Kp.refl _ | with_reducible refine Kp.drew ?_ | with_reducible refine Kp.drewN ?_ _ | with_reducible refine Kp.alloc ?_ _ | ((with_reducible refine Kp.setCell ?_ ?_ _); rotate_left; (focus (first | omega | (simp; done) | (simp; omega)))) | with_reducible refine Kp.trans ?_ (by assumption))))⟩
  case round =>
    obtain ⟨i, fr, n, ds, a, m, c, hi, rfl, rfl, rfl, hfr, hni, h10, hrest, hgood, hds, xr, xx, xR, xk⟩ := hrel
    by_cases hlt : i < s.length
    · obtain ⟨b, hc⟩ : ∃ b, s[i]? = some b := ⟨s[i], List.getElem?_eq_getElem hlt⟩
      have ht : s.take (i + 1) = s.take i ++ [b] := by rw [List.take_add_one, hc]; rfl
      have ji : decide ((i : Int) < (s.length : Int)) = true := decide_eq_true (by omega)
      have hsz : (⟨s.toArray⟩ : ByteArray).size = s.length := size_sv s
      have hcg : (⟨s.toArray⟩ : ByteArray)[i]'(by rw [hsz]; exact hlt) = b := (List.getElem?_eq_some_iff.1 hc).2
      by_cases hb : b = 10
      · have e10 : ((b.toNat : Int) == 10) = true := by subst hb; rfl
        have hcut := cut_here hrest hfr h10 (by rw [hc, hb])
        obtain ⟨X, hX⟩ : ∃ X, (s.take i).drop fr = X := ⟨_, rfl⟩
        have hex : (⟨s.toArray⟩ : ByteArray).extract fr i = ⟨X.toArray⟩ := by rw [extract_sv, hX]
        have hXl : X.length ≤ 10000 := by rw [← hX, List.length_drop, List.length_take]; omega
        rw [hX] at hcut
        have hline : lineK s n = X := by unfold lineK; rw [hcut]
        have hrest1 : restK s (n + 1) = s.drop (i + 1) := by show (Lib.cut (restK s n) [10]).2.1 = _; rw [hcut]
        have hne : restK s n ≠ [] := by
          rw [hrest]
          intro e
          have := congrArg List.length e
          rw [List.length_drop, List.length_nil] at this
          omega
        have hd1 : dsK s (n + 1) = takeP ds X := by unfold dsK; rw [hds, hline]; rfl
        have hm : mass ds ≤ 2000 := by rw [ds_mass hds]; omega
        obtain ⟨B, hB⟩ : ∃ B, (takeP ds X).isSome = B := ⟨_, rfl⟩
        have CO : Hid (∀ w1, Kp w w1 → Rep w1 w.heap.size (.slice a m c) ds → Calls Tryd.prog 22 #[.slice a m c, sv X] w1 (OneEnd w ds X w1)) := Lib.hid fun w1 k1 hR => one_any w ds _ X w1 k1 hR hXl hm
        have HG : Hid (B = true → Good s n ∧ ∃ ds', takeP ds X = some ds' ∧ dsK s (n + 1) = some ds') := Lib.hid fun hb => by
          rw [← hB] at hb
          obtain ⟨ds', hd'⟩ := Option.isSome_iff_exists.1 hb
          exact ⟨⟨hne, by rw [hcut], by rw [hd1]; exact hb⟩, ds', hd', by rw [hd1, hd']⟩
        have HN : Hid (B = false → ¬ Good s n) := Lib.hid fun hb hg => by
          have := hg.2.2
          rw [hd1, hB, hb] at this
          cases this
        have HR := Lib.hid xR
        have HX := Lib.hid hrest1
        have HE := Lib.hid hne
        have HGD := Lib.hid hgood
        have HS : Hid ((10 : UInt8) ∉ (s.take (i + 1)).drop (i + 1)) := Lib.hid (by rw [List.drop_of_length_le (by rw [List.length_take]; omega)]; simp)
        clear xR hrest1 hne hgood hd1 hcut hline hX h10 hrest ht hc hb hds hm
        have x0 := xx.cell 0 rfl
        have xl := xx.lt
        go_wp2_with fail
        (refine wp_region_held_drew (S := (fun _ => True)) (by kernel_rfl) ?_ (fun hHd => ?_); (focus ((try dsimp only); all_goals trivial)))
        (refine takeH (i := 0) (oi := ?o72) (v := ?v72) ?h72 (by kernel_rfl) ?q72 (Or.inl ⟨?w72, ?y72⟩) (by assumption) ?r72; (case h72 => ((simp only [g1, g3]); rfl)); (case q72 => exact fun _ _ _ h => h); (case w72 => rfl); (case y72 => (intro w' hSw; (try dsimp only at hSw); go_simp; (try with_reducible rfl))); (try simp only [Act.put, s1, s2, s3]))
        (refine takeH (i := 2) (oi := ?o73) (v := ?v73) ?h73 (by kernel_rfl) ?q73 (Or.inl ⟨?w73, ?y73⟩) (by assumption) ?r73; (case h73 => ((simp only [g1, g2, g3]); rfl)); (case q73 => exact fun _ _ _ h => h); (case w73 => rfl); (case y73 => (intro w' hSw; (try dsimp only at hSw); go_simp; (try with_reducible rfl))); (try simp only [Act.put, s1, s2, s3]))
        (refine takeH (i := 3) (oi := ?o74) (v := ?v74) ?h74 (by kernel_rfl) ?q74 (Or.inl ⟨?w74, ?y74⟩) (by assumption) ?r74; (case h74 => ((simp only [g1, g2, g3]); rfl)); (case q74 => exact fun _ _ _ h => h); (case w74 => rfl); (case y74 => (intro w' hSw; (try dsimp only at hSw); go_simp; (try with_reducible rfl))); (try simp only [Act.put, s1, s2, s3]))
        (refine takeH (i := 4) (oi := ?o75) (v := ?v75) ?h75 (by kernel_rfl) ?q75 (Or.inl ⟨?w75, ?y75⟩) (by assumption) ?r75; (case h75 => ((simp only [g1, g2, g3]); rfl)); (case q75 => exact fun _ _ _ h => h); (case w75 => rfl); (case y75 => (intro w' hSw; (try dsimp only at hSw); go_simp; (try with_reducible rfl))); (try simp only [Act.put, s1, s2, s3]))
        (refine takeH (i := 5) (oi := ?o76) (v := ?v76) ?h76 (by kernel_rfl) ?q76 (Or.inl ⟨?w76, ?y76⟩) (by assumption) ?r76; (case h76 => ((simp only [g1, g2, g3]); rfl)); (case q76 => exact fun _ _ _ h => h); (case w76 => rfl); (case y76 => (intro w' hSw; (try dsimp only at hSw); go_simp; (try with_reducible rfl))); (try simp only [Act.put, s1, s2, s3]))
        (refine wpAnyH_ready (rs := [1]) (by kernel_rfl) (by simp) ?_; refine AllReadyH.cons (o := ?o77) ?h77 (fun K hK => ?s77) AllReadyH.nil; (case h77 => (first | ((simp only [g1, g2, g3]); rfl) | rfl)); go_simp; (try dsimp only); refine hK.out _ _ ?_ (fun hHd => ?_); (focus ((try dsimp only); all_goals trivial)); clear hK K; (try simp only [Act.put, s1, s2, s3]))
        (refine wpAnyH_ready (rs := [6]) (by kernel_rfl) (by simp) ?_; refine AllReadyH.cons (o := ?o78) ?h78 (fun K hK => ?s78) AllReadyH.nil; (case h78 => (first | ((simp only [g1, g2, g3]); rfl) | rfl)); (go_simp; go_at_call 22; refine (CO.out _ (xk.trans (show Kp wr _ from (by (repeat (first | with_reducible assumption | with_reducible exact Kp.refl _ | with_reducible refine Kp.drew ?_ | with_reducible refine Kp.drewN ?_ _ | with_reducible refine Kp.alloc ?_ _ | ((with_reducible refine Kp.setCell ?_ ?_ _); rotate_left; (focus (first | omega | (simp; done) | (simp; omega)))) | with_reducible refine Kp.trans ?_ (by assumption)))))) (HR.out.move (Typed.kp (show Kp wr _ from (by (repeat (first | with_reducible assumption | with_reducible exact Kp.refl _ | with_reducible refine Kp.drew ?_ | with_reducible refine Kp.drewN ?_ _ | with_reducible refine Kp.alloc ?_ _ | ((with_reducible refine Kp.setCell ?_ ?_ _); rotate_left; (focus (first | omega | (simp; done) | (simp; omega)))) | with_reducible refine Kp.trans ?_ (by assumption)))))))).mono ?_; rintro e w4 ⟨⟨k4, kp4⟩, a4, n4, c4, rfl, hR4⟩; rw [hB]; (try dsimp only); have xr4 := kp4 _ _ (xr.kp (show Kp wr _ from (by (repeat (first | with_reducible assumption | with_reducible exact Kp.refl _ | with_reducible refine Kp.drew ?_ | with_reducible refine Kp.drewN ?_ _ | with_reducible refine Kp.alloc ?_ _ | ((with_reducible refine Kp.setCell ?_ ?_ _); rotate_left; (focus (first | omega | (simp; done) | (simp; omega)))) | with_reducible refine Kp.trans ?_ (by assumption)))))); have xx4 := kp4 _ _ (xx.kp (show Kp wr _ from (by (repeat (first | with_reducible assumption | with_reducible exact Kp.refl _ | with_reducible refine Kp.drew ?_ | with_reducible refine Kp.drewN ?_ _ | with_reducible refine Kp.alloc ?_ _ | ((with_reducible refine Kp.setCell ?_ ?_ _); rotate_left; (focus (first | omega | (simp; done) | (simp; omega)))) | with_reducible refine Kp.trans ?_ (by assumption)))))); have y0 := xx4.cell 0 rfl; have y1 := xx4.cell 1 rfl; have y2 := xx4.cell 2 rfl; have f0 := xx4.free 0; have f1 := xx4.free 1; have f2 := xx4.free 2); refine hK.out _ _ ?_ (fun hHd => ?_); (focus ((try dsimp only); all_goals trivial)); clear hK K; (try simp only [Act.put]))
        (refine wpAnyH_ready (rs := [7]) (by kernel_rfl) (by simp) ?_; refine AllReadyH.cons (o := ?o80) ?h80 (fun K hK => ?s80) AllReadyH.nil; (case h80 => (first | ((simp only [g1, g2, g3]); rfl) | rfl)); go_simp; (try dsimp only); refine hK.out _ _ ?_ (fun hHd => ?_); (focus ((try dsimp only); all_goals trivial)); clear hK K; (try simp only [Act.put, s1, s2, s3]))
        refine wpAnyH_done (by kernel_rfl) ?_ _
        have kz : Kp w (((w4.setCell ⟨w.heap.size + 1, 0, none⟩ (.slice a4 n4 c4)).setCell ⟨w.heap.size + 1, 1, none⟩ (.int .i64 0)).setCell ⟨w.heap.size + 1, 2, none⟩ (.bool B)) := (by (repeat (first | with_reducible assumption | with_reducible exact Kp.refl _ | with_reducible refine Kp.drew ?_ | with_reducible refine Kp.drewN ?_ _ | with_reducible refine Kp.alloc ?_ _ | ((with_reducible refine Kp.setCell ?_ ?_ _); rotate_left; (focus (first | omega | (simp; done) | (simp; omega)))) | with_reducible refine Kp.trans ?_ (by assumption))))
        have zz : Blk (((w4.setCell ⟨w.heap.size + 1, 0, none⟩ (.slice a4 n4 c4)).setCell ⟨w.heap.size + 1, 1, none⟩ (.int .i64 0)).setCell ⟨w.heap.size + 1, 2, none⟩ (.bool B)) (w.heap.size + 1) [.slice a4 n4 c4, .int .i64 0, .bool B] 27 := ((xx4.set 0 (.slice a4 n4 c4)).set 1 (.int .i64 0)).set 2 (.bool B)
        have zr : Blk (((w4.setCell ⟨w.heap.size + 1, 0, none⟩ (.slice a4 n4 c4)).setCell ⟨w.heap.size + 1, 1, none⟩ (.int .i64 0)).setCell ⟨w.heap.size + 1, 2, none⟩ (.bool B)) w.heap.size [.slice none 0 0, .int .i64 0, .bool false] 27 := (by (repeat (first | with_reducible assumption | ((with_reducible refine Blk.newL ?_ ?_); (focus (first | (simp; done) | omega)); rfl) | with_reducible refine Blk.drew ?_ | with_reducible refine Blk.drewN ?_ _ | with_reducible refine Blk.alloc ?_ _ | ((with_reducible refine Blk.other ?_ ?_ _); rotate_left; (focus (first | with_reducible assumption | omega | (simp; done) | (simp; omega)))))))
        have HRZ : Hid (∀ ds', takeP ds X = some ds' → Rep (((w4.setCell ⟨w.heap.size + 1, 0, none⟩ (.slice a4 n4 c4)).setCell ⟨w.heap.size + 1, 1, none⟩ (.int .i64 0)).setCell ⟨w.heap.size + 1, 2, none⟩ (.bool B)) w.heap.size (.slice a4 n4 c4) ds') := Lib.hid fun ds' hd =>
          (((hR4 ds' hd).move (Typed.away xx4 (by decide) (by decide) (by decide) 0 _)).move (Typed.away (xx4.set 0 (.slice a4 n4 c4)) (by decide) (by decide) (by decide) 1 _)).move (Typed.away ((xx4.set 0 (.slice a4 n4 c4)).set 1 (.int .i64 0)) (by decide) (by decide) (by decide) 2 _)
        clear y0 y1 y2 f0 f1 f2 xx4 xr4 hR4 kp4 k4 x0 xl xr xx xk HR CO
        (try clear hHd)
        generalize ((w4.setCell ⟨w.heap.size + 1, 0, none⟩ (.slice a4 n4 c4)).setCell ⟨w.heap.size + 1, 1, none⟩ (.int .i64 0)).setCell ⟨w.heap.size + 1, 2, none⟩ (.bool B) = w5 at zz zr HRZ kz ⊢
        have y0 := zz.cell 0 rfl
        have y1 := zz.cell 1 rfl
        have y2 := zz.cell 2 rfl
        have x0 := zr.cell 0 rfl
        have x1 := zr.cell 1 rfl
        have x2 := zr.cell 2 rfl
        have f0 := zr.free 0
        have f1 := zr.free 1
        have f2 := zr.free 2
        have zl := zr.lt
        rcases B with _ | _
        · have hbad := HN.out rfl
          have HB := Lib.hid hbad
          clear hbad
          go_wp2_with fail
          have rr := (((zr.set 0 (.slice none 0 0)).set 1 (.int .i64 ((n : Int) + 1))).set 2 (.bool false))
          have q0 := rr.cell 0 rfl
          have q1 := rr.cell 1 rfl
          have q2 := rr.cell 2 rfl
          clear x0 x1 x2
          refine bodyPost_ret (v := .agg #[.slice none 0 0, .int .i64 ((n : Int) + 1), .bool false]) (by simp [results, Tryd.results8, go_sem, q0, q1, q2]) rfl ?_
          exact ⟨(by (repeat (first | with_reducible assumption | with_reducible exact Kp.refl _ | with_reducible refine Kp.drew ?_ | with_reducible refine Kp.drewN ?_ _ | with_reducible refine Kp.alloc ?_ _ | ((with_reducible refine Kp.setCell ?_ ?_ _); rotate_left; (focus (first | omega | (simp; done) | (simp; omega)))) | with_reducible refine Kp.trans ?_ (by assumption)))), n, HGD.out, HB.out, .inr ⟨HE.out, rfl⟩⟩
        · obtain ⟨hgn, ds', hd', hk'⟩ := HG.out rfl
          have HGN := Lib.hid hgn
          have HRD := Lib.hid (HRZ.out ds' hd')
          have HD := Lib.hid hk'
          clear hgn hd' hk' HRZ HG HN
          go_wp2_with fail
          go_roundw
          case rel => exact ⟨i + 1, i + 1, n + 1, ds', a4, n4, c4, by omega, by go_num, by go_num, by go_num, Nat.le_refl _, by omega, HS.out, HX.out, fun j hj => by
            by_cases e : j = n
            · rw [e]; exact HGN.out
            · exact HGD.out j (by omega), HD.out, zr, zz, HRD.out, kz⟩
          case measure => simp [intOf]; omega
      · have e10 : ((b.toNat : Int) == 10) = false := beq_eq_false_iff_ne.2 (fun e => hb (UInt8.toNat_inj.1 (by have : (10 : UInt8).toNat = 10 := rfl; omega)))
        have HS : Hid ((10 : UInt8) ∉ (s.take (i + 1)).drop fr) := Lib.hid (by
          rw [ht, List.drop_append_of_le_length (by rw [List.length_take]; omega)]
          intro hm
          rcases List.mem_append.1 hm with hm | hm
          · exact h10 hm
          · rw [List.mem_singleton] at hm; exact hb hm.symm)
        have HGD := Lib.hid hgood
        have HR := Lib.hid xR
        have HX := Lib.hid hrest
        have HD := Lib.hid hds
        clear xR hgood hrest hds h10 ht hc hb
        go_wp2_with fail
        go_roundw
        case rel => exact ⟨i + 1, fr, n, ds, a, m, c, by omega, by go_num, by first | rfl | go_num, by first | rfl | go_num, by omega, by omega, HS.out, HX.out, HGD.out, HD.out, xr, xx, HR.out, xk⟩
        case measure => simp [intOf]; omega
    · obtain rfl : i = s.length := by omega
      have ji : decide ((s.length : Int) < (s.length : Int)) = false := decide_eq_false (by omega)
      rw [List.take_length] at h10
      have HGD := Lib.hid hgood
      have HR := Lib.hid xR
      have HD := Lib.hid hds
      have x0 := xr.cell 0 rfl
      have x1 := xr.cell 1 rfl
      have x2 := xr.cell 2 rfl
      have f0 := xr.free 0
      have f1 := xr.free 1
      have f2 := xr.free 2
      have y0 := xx.cell 0 rfl
      have y1 := xx.cell 1 rfl
      have y2 := xx.cell 2 rfl
      have zl := xr.lt
      have xl := xx.lt
      by_cases hf : fr < s.length
      · have jf : decide ((fr : Int) < (s.length : Int)) = true := decide_eq_true (by omega)
        have HE : Hid (restK s n ≠ []) := Lib.hid (by
          rw [hrest]
          intro e
          have := congrArg List.length e
          rw [List.length_drop, List.length_nil] at this
          omega)
        have HB : Hid (¬ Good s n) := Lib.hid fun hg => by
          have h2 := hg.2.1
          rw [hrest, cut10_no _ h10] at h2
          cases h2
        clear hrest hgood xR hds h10 y0 y1 y2
        go_wp2_with fail
        have rr := (((xr.set 0 (.slice none 0 0)).set 1 (.int .i64 ((n : Int) + 1))).set 2 (.bool false))
        have q0 := rr.cell 0 rfl
        have q1 := rr.cell 1 rfl
        have q2 := rr.cell 2 rfl
        clear x0 x1 x2
        refine bodyPost_ret (v := .agg #[.slice none 0 0, .int .i64 ((n : Int) + 1), .bool false]) (by simp [results, Tryd.results8, go_sem, q0, q1, q2]) rfl ?_
        exact ⟨(by (repeat (first | with_reducible assumption | with_reducible exact Kp.refl _ | with_reducible refine Kp.drew ?_ | with_reducible refine Kp.drewN ?_ _ | with_reducible refine Kp.alloc ?_ _ | ((with_reducible refine Kp.setCell ?_ ?_ _); rotate_left; (focus (first | omega | (simp; done) | (simp; omega)))) | with_reducible refine Kp.trans ?_ (by assumption)))), n, HGD.out, HB.out, .inr ⟨HE.out, rfl⟩⟩
      · have jf : decide ((fr : Int) < (s.length : Int)) = false := decide_eq_false (by omega)
        have HE : Hid (restK s n = []) := Lib.hid (by rw [hrest, List.drop_of_length_le (by omega)])
        have HB : Hid (¬ Good s n) := Lib.hid fun hg => hg.1 HE.out
        clear hrest hgood xR hds h10
        go_wp2_with fail
        have rr := (((xr.set 0 (.slice a m c)).set 1 (.int .i64 0)).set 2 (.bool true))
        have q0 := rr.cell 0 rfl
        have q1 := rr.cell 1 rfl
        have q2 := rr.cell 2 rfl
        clear x0 x1 x2 y0 y1 y2
        refine bodyPost_ret (v := .agg #[.slice a m c, .int .i64 0, .bool true]) (by simp [results, Tryd.results8, go_sem, q0, q1, q2]) rfl ?_
        exact ⟨(by (repeat (first | with_reducible assumption | with_reducible exact Kp.refl _ | with_reducible refine Kp.drew ?_ | with_reducible refine Kp.drewN ?_ _ | with_reducible refine Kp.alloc ?_ _ | ((with_reducible refine Kp.setCell ?_ ?_ _); rotate_left; (focus (first | omega | (simp; done) | (simp; omega)))) | with_reducible refine Kp.trans ?_ (by assumption)))), n, HGD.out, HB.out, .inl ⟨HE.out, ds, _, HD.out, rfl, ((HR.out.move (Typed.away xr (by decide) (by decide) (by decide) 0 _)).move (Typed.away (xr.set 0 (.slice a m c)) (by decide) (by decide) (by decide) 1 _)).move (Typed.away ((xr.set 0 (.slice a m c)).set 1 (.int .i64 0)) (by decide) (by decide) (by decide) 2 _)⟩⟩
end Go.Proofs.YteadhacoglcbfaaDoor
namespace Go.Proofs.YteadhacoglcbfaaDoor

open Go.RowKit

/-- Cells of the blocks K stand as they stood. -/
def CK (K : Nat → Prop) (W W' : World) : Prop := ∀ p v, K p.block → W.cell? p = some v → W'.cell? p = some v
theorem CK.refl (K : Nat → Prop) (W : World) : CK K W W := fun _ _ _ h => h
theorem CK.trans {K : Nat → Prop} {A B C : World} (h : CK K A B) (k : CK K B C) : CK K A C := fun p v hp hv => k p v hp (h p v hp hv)
theorem CK.book {K : Nat → Prop} {w : World} (W : World) (l : Nat) (o o' : Obj) (_ : w.heap.size ≤ l) (h : W.heap[l]? = some o) (hc : o.isCells = false) (_ : o.isWalk = false) : CK K W (W.putObj l o') :=
  fun _ _ _ hv => cell_kept hv (grownBy_putObj' W l o') (fun r e => by cases e; exact ⟨o, h, hc⟩)
theorem Kp.ck {K : Nat → Prop} {W W' : World} (k : Kp W W') : CK K W W' := fun p _ _ hv => (k.cell (p := p) (World.block_lt_of_cell? W _ hv)).trans hv
/-- What is left alone below a bound. -/
theorem CK.below {K : Nat → Prop} {n : Nat} {W W' : World} (k : Below n W W') (hK : ∀ b, K b → b < n) : CK K W W' := fun p _ hp hv => (k.cell (p := p) (hK _ hp)).trans hv
/-- An iterator's invariant through a call that makes memory. -/
theorem abide {β : Type} {B : Nat} {J : β → World → Prop} (h : AbidesFrom B J) {s : β} {W W' : World} (hs : J s W) (k : Kp W W') : J s W' := h s W W' none hs k.grownBy (fun r e => by cases e)
/-- A slice that came in, its own block kept. -/
theorem SlOk.ck {α : Type} {w w' : World} {n : Nat} {enc : α → List Value} {a : Option Addr} {len cap : Nat} {l : List α} {K : Nat → Prop} (h : SlOk w n enc a len cap l) (hK : ∀ b off sp, a = some ⟨b, off, sp⟩ → K b) (k : CK K w w') (hs : w.heap.size ≤ w'.heap.size) : SlOk w' n enc a len cap l := by
  obtain ⟨h1, h2, h3, h4⟩ := h
  refine ⟨h1, h2, h3, ?_⟩
  rcases h4 with h4 | ⟨b, off, ha, hb, hr⟩
  · exact .inl h4
  · exact .inr ⟨b, off, ha, Nat.lt_of_lt_of_le hb hs, fun i x hx j v hv => k ⟨b, off + i * n + j, none⟩ v (hK b off none ha) (hr i x hx j v hv)⟩
/-- A function whose body holds a range over a function. -/
theorem calls_marks {P : Program} {f : FuncId} {fn : Func} {c : Code} {args : Array Value} {w : World} {R : Ending → World → Prop}
    (hf : P.funcs[f]? = some fn) (hb : fn.body = some c)
    (h : c.wp P (bodyPostM Fence.wide 100 P fn R) { tmps := args ++ Array.replicate (fn.ntmps - args.size) undef, defers := [] } w) : Calls P f args w R :=
  callsIn_wide.1 (callsIn_of_wp_marks (F := Fence.wide) (n := 100) hf hb trivial (wpIn_wide.2 h))
/-- The first k of n places. -/
def firsts (n k : Nat) : List (Fin n) := (List.finRange n).take k
theorem firsts_zero (n : Nat) : firsts n 0 = [] := by simp [firsts]
theorem firsts_all (n : Nat) : firsts n n = List.finRange n := by unfold firsts; exact List.take_of_length_le (by simp)
theorem firsts_length {n k : Nat} (h : k ≤ n) : (firsts n k).length = k := by unfold firsts; rw [List.length_take]; simp; omega
theorem firsts_succ {n k : Nat} (h : k < n) : firsts n (k + 1) = firsts n k ++ [⟨k, h⟩] := by
  unfold firsts
  rw [List.take_succ_eq_append_getElem (by simpa using h)]
  simp
/-- As callsIn_of_wp_marks asks: the block for deferred calls is handed over. -/
theorem take_mark {P : Program} {w : World} {D : Nat} (h : w.heap[D]? = some (.deferred (some []))) : (Instr.takeDeferred D).run P w = .ok [] (w.putObj D (.deferred none)) := run_takeDeferred h
theorem Kp.mark {W w : World} (k : Kp W w) {D : Nat} {o : Obj} (o' : Obj) (hD : W.heap.size ≤ D) (hK : w.heap[D]? = some o) : Kp W (w.putObj D o') :=
  Below.grown k (grownBy_putObj' w D o') (by have := (Array.getElem?_eq_some_iff.1 hK).1; exact k.size) (fun j e => by cases e; exact hD)
/-- What the law asks of a caller's invariant, fact by fact. -/
theorem Blk.grown {W W' : World} {row : Option Nat} {b : Nat} {cs : List Value} {t : TypeId} (h : Blk W b cs t) (hg : W.grownBy W' row) (hr : ∀ r, row = some r → ∃ o : Obj, W.heap[r]? = some o ∧ o.isCells = false) : Blk W' b cs t :=
  ⟨(hg.block b h.lt (fun e => by obtain ⟨o, ho, hc⟩ := hr b e.symm; rw [h.heap] at ho; cases ho; cases hc)).trans h.heap⟩
theorem Row.grown {α : Type} {W W' : World} {row : Option Nat} {base n : Nat} {e : TypeId} {enc : α → List Value} {v : Value} {l : List α} (h : Row W base e n enc v l) (hg : W.grownBy W' row) (hr : ∀ r, row = some r → ∃ o : Obj, W.heap[r]? = some o ∧ o.isCells = false) : Row W' base e n enc v l := by
  refine World.ownsRow.kept h hg ?_
  rcases h.2 with ⟨rfl, _⟩ | ⟨g, cap, cur, rfl, _, hgb, _⟩
  · exact .inl rfl
  · refine .inr fun e' => ?_
    obtain ⟨o, ho, hc⟩ := hr g (by simpa [Value.ownBlock] using e'.symm)
    rw [hgb] at ho; cases ho; cases hc
theorem Kp.grown2 {w W W' : World} {row : Option Nat} {B : Nat} (k : Kp w W) (hg : W.grownBy W' row) (hB : w.heap.size ≤ B) (hr : ∀ r, row = some r → B ≤ r) : Kp w W' := Below.grown k hg k.size (fun j e => Nat.le_trans hB (hr j e))
/-- A range over a function, in a function that no fence bounds. -/
theorem wp_range {α : Type} {P : Program} {g : Operand} {ps : Array Tmp} {assign body : Code} {Q : Exit → Act → World → Prop} {a : Act} {w : World} {gf : Nat} {lb : Array Value} (hg : a.eval g = .func (.func gf) #[] lb) (eg : ∀ args w, (callFunc gf args).run P w = .ok (.enter gf args) w)
    {encs : α → Array Value} {K : Nat → Prop} {S Sp : List α → Prop} {N : Nat} {w0 : World} (hseq : SeqStopsK Fence.wide 99 P gf lb encs (CK K) S Sp N w0) (hb0 : Below w0.heap.size w0 w) (hps : ∀ x, (encs x).size = ps.size)
    (I : List α → World → Prop) (Ix : Code → List α → World → Prop) (hI : OwnFrom w.heap.size I) (hIx : ∀ c, OwnFrom w.heap.size (Ix c)) (h0 : I [] w) (a₁ : α → Act)
    (hassign : ∀ (l : Nat) (x : α) (W : World) (K : Act → World → Prop), K (a₁ x) W →
      assign.wpIn (Fence.wide.inRound l) 98 P (Exit.then K (fun _ _ _ => False)) { tmps := (ps.zip (encs x)).foldl (fun t (p, v) => t.setIfInBounds p v) a.tmps, defers := [] } W)
    (hbody : ∀ (l : Nat) (pre : List α) (x : α) (W : World), I pre W → pre.length < N → body.wpIn (Fence.wide.inRound l) 98 P (ownPostK (CK K) I Ix (pre ++ [x]) W) (a₁ x) W)
    (hdone : ∀ (D : Nat) (xs : List α) (W : World), w.heap.size ≤ D → S xs → I xs W → W.heap[D]? = some (.deferred (some [])) → Q .normal { a with defers := { target := .collected D, args := #[] } :: a.defers } W)
    (hstop : ∀ (D : Nat) (c : Code) (pre : List α) (W : World), w.heap.size ≤ D → Sp pre → Ix c pre W → W.heap[D]? = some (.deferred (some [])) → c.wp P Q { a with defers := { target := .collected D, args := #[] } :: a.defers } W) :
    (Code.rangeFunc g ps assign body).wp P Q a w :=
  wpIn_wide.1 (wpIn_rangeFunc_ownF (F := Fence.wide) (n := 100) rfl (by decide) hg trivial eg hseq (fun h k => h.trans k) CK.book hb0 hps I Ix hI hIx h0 a₁ hassign hbody hdone (fun D c pre W h1 h2 h3 h4 => wpIn_wide.2 (hstop D c pre W h1 h2 h3 h4)))
/-- 'out = append(out, y)' in a round. -/
theorem rowAppendIn {F : Fence} {nn : Nat} {α : Type} {ops : Array Oper} {rest : List Oper} {o : Oper} {a : Act} {w : World} {Q : Exit → Act → World → Prop} (hgd : o.guard = none) (s x : Operand) (t : TypeId)
    (ho : o.op = .call { callee := .builtin .append, args := #[s, x], argTypes := #[t, t] }) {base : Nat} {e : TypeId} {z : Value} {n bytes : Nat} (ht : Tryd.prog.underlying t = some (.slice e))
    (hinfo : (Tryd.prog.info? e).map (fun i => (i.zero, i.size, i.bytes)) = some (some z, n, bytes)) (hzs : z.cells.size = n) (hsz : 0 < n)
    {v : Value} {l : List α} {enc : α → List Value} (hrow : Row w base e n enc v l) (hs : a.eval s = v) {y : α} (hy : (enc y).length = n) (h1 : ∀ u ∈ enc y, u.oneCell' = true) {b : Nat} {t' : TypeId} (hb : Blk w b (enc y) t')
    (hx : a.eval x = .slice (some ⟨b, 0, none⟩) 1 1) (hlen : l.length + 1 ≤ maxLen) (hbytes : (l.length + 1) * bytes ≤ 140737488355328) (hbase : base ≤ w.heap.size)
    (h : ∀ g cap w', Row w' base e n enc (.slice (some ⟨g, 0, none⟩) (l.length + 1) cap) (l ++ [y]) → (∀ b', b' < base → w'.heap[b']? = w.heap[b']?) → KeepsOthers w w' → Below base w w' →
      wpListIn F nn Tryd.prog ops Q rest (a.put o.dst (.slice (some ⟨g, 0, none⟩) (l.length + 1) cap)) w') : wpListIn F nn Tryd.prog ops Q (o :: rest) a w := by
  obtain ⟨i0, hi, hz0, hz1, hz2⟩ := info_parts hinfo
  refine wpListIn_append_own w hgd s x t ho base e i0 z n bytes ht hi hz0 hz1 hz2 hzs hsz v l.length _ hs hrow ⟨b, 0, none⟩ 1 1 (enc y) hx (by rw [hy, Nat.one_mul]) (fun j u hu => ?_) h1 hlen hbytes hbase ?_
  · have hadd : (⟨b, 0, none⟩ : Addr).add j = ⟨b, j, none⟩ := by unfold Addr.add; split <;> simp_all
    rw [hadd]; exact hb.cell j hu
  · intro v' w' hown hgrow hnil
    obtain ⟨g, cap, rfl⟩ := ownsRow_succ hown
    have hr : ∀ k, v.ownBlock = some k → base ≤ k := fun k hk => (hrow.lt k hk).1
    refine h g cap w' ?_ (fun b' hb' => hgrow.block b' (Nat.lt_of_lt_of_le hb' hbase) (fun e => by have := hr b' e.symm; omega)) (KeepsOthers.of_grownBy hgrow fun j o' ej hj => ?_) ((Below.refl base w).grown hgrow hbase hr)
    · unfold Row
      rw [List.length_append, List.flatMap_append]
      simpa using hown
    · rcases hrow.2 with ⟨rfl, _⟩ | ⟨g', cap', cur, rfl, _, hgb, _⟩
      · simp [Value.ownBlock] at ej
      · obtain rfl : g' = j := by simpa [Value.ownBlock] using ej
        rw [hgb] at hj; cases hj; rfl
theorem Row.store {α : Type} {w : World} {base n : Nat} {e : TypeId} {enc : α → List Value} {v : Value} {l : List α} (h : Row w base e n enc v l) {B : Nat} (hB : B < base) (u : Value) : Row (w.setCell ⟨B, 0, none⟩ u) base e n enc v l :=
  World.ownsRow.kept h (grownBy_setCell' w B u) (.inr (fun e => by have := (h.lt B e).1; omega))
/-- The same; the frame behind the assignment to the loop's variables is found by the walk ('apply Exists.intro'). -/
theorem wp_rangeE {α : Type} {P : Program} {g : Operand} {ps : Array Tmp} {assign body : Code} {Q : Exit → Act → World → Prop} {a : Act} {w : World} {gf : Nat} {lb : Array Value} (hg : a.eval g = .func (.func gf) #[] lb) (eg : ∀ args w, (callFunc gf args).run P w = .ok (.enter gf args) w)
    {encs : α → Array Value} {K : Nat → Prop} {S Sp : List α → Prop} {N : Nat} {w0 : World} (hseq : SeqStopsK Fence.wide 99 P gf lb encs (CK K) S Sp N w0) (hb0 : Below w0.heap.size w0 w) (hps : ∀ x, (encs x).size = ps.size)
    (I : List α → World → Prop) (Ix : Code → List α → World → Prop) (hI : OwnFrom w.heap.size I) (hIx : ∀ c, OwnFrom w.heap.size (Ix c)) (h0 : I [] w)
    (h : ∃ a₁ : α → Act, (∀ (l : Nat) (x : α) (W : World) (K : Act → World → Prop), K (a₁ x) W →
        assign.wpIn (Fence.wide.inRound l) 98 P (Exit.then K (fun _ _ _ => False)) { tmps := (ps.zip (encs x)).foldl (fun t (p, v) => t.setIfInBounds p v) a.tmps, defers := [] } W) ∧
      ∀ (l : Nat) (pre : List α) (x : α) (W : World), I pre W → pre.length < N → body.wpIn (Fence.wide.inRound l) 98 P (ownPostK (CK K) I Ix (pre ++ [x]) W) (a₁ x) W)
    (hdone : ∀ (D : Nat) (xs : List α) (W : World), w.heap.size ≤ D → S xs → I xs W → W.heap[D]? = some (.deferred (some [])) → Q .normal { a with defers := { target := .collected D, args := #[] } :: a.defers } W)
    (hstop : ∀ (D : Nat) (c : Code) (pre : List α) (W : World), w.heap.size ≤ D → Sp pre → Ix c pre W → W.heap[D]? = some (.deferred (some [])) → c.wp P Q { a with defers := { target := .collected D, args := #[] } :: a.defers } W) :
    (Code.rangeFunc g ps assign body).wp P Q a w := by
  obtain ⟨a₁, h1, h2⟩ := h
  exact wp_range hg eg hseq hb0 hps I Ix hI hIx h0 a₁ h1 h2 hdone hstop
theorem cell_heapP {W W' : World} {p : Addr} (h : W'.heap[p.block]? = W.heap[p.block]?) : W'.cell? p = W.cell? p := by simp [World.cell?, h]
theorem CK.set {K : Nat → Prop} (W : World) {B : Nat} (hK : ∀ b, K b → b ≠ B) (u : Value) : CK K W (W.setCell ⟨B, 0, none⟩ u) := fun p _ hp hv =>
  (cell_heapP (Below.heap_setCell _ _ _ _ (fun e => hK _ hp (by rw [e])))).trans hv
theorem CK.alloc {K : Nat → Prop} (W : World) (o : Obj) : CK K W (W.alloc o) := Kp.ck ((Kp.refl W).alloc o)
theorem Blk.heapEq {W W' : World} {b : Nat} {cs : List Value} {t : TypeId} (h : Blk W b cs t) (e : W'.heap[b]? = W.heap[b]?) : Blk W' b cs t := ⟨e.trans h.heap⟩
/-- The blocks that an iterator over a slice reads lie below a bound. -/
theorem SlOk.block {α : Type} {w : World} {n : Nat} {enc : α → List Value} {a : Option Addr} {len cap : Nat} {l : List α} (h : SlOk w n enc a len cap l) (hl : 0 < l.length) {b off : Nat} {sp} (e : a = some ⟨b, off, sp⟩) : b < w.heap.size := by
  rcases h.2.2.2 with h4 | ⟨b', off', ha, hb, _⟩
  · rw [h4] at hl; simp at hl
  · rw [ha] at e; cases e; exact hb
/-! A region that draws its order, in a round: the plain walk serves. -/
theorem Oper.wp_round {P : Program} {l n : Nat} {o : Oper} {a : Act} {w : World} {K : Act → World → Prop} {Q : Exit → Act → World → Prop} (hnd : ∀ c, o.op ≠ .defer c) (h : o.wp P a w K Q) : o.wpIn (Fence.wide.inRound l) n P a w K Q := by
  unfold Oper.wp at h
  unfold Oper.wpIn
  refine ⟨fun _ _ => trivial, ?_⟩
  rw [Oper.semAt_plain _ _ _ hnd]
  generalize (execOp a.eval o).run P w = r at *
  have hd : (Fence.wide.inRound l).depth.isSome = true → 1 ≤ n := fun h => by cases h
  cases r with
  | ok x w' =>
    cases x <;> simp only [Oper.upon, Oper.uponIn] at h ⊢ <;>
      first
        | exact h
        | exact ⟨hd, CallsIn.inRound l (callsIn_wide.2 h)⟩
        | (refine ⟨hd, fun c cs _ => ?_⟩
           obtain ⟨v, w'', hR, hs⟩ := h c cs
           exact ⟨v, w'', hR, stepsIn_wide.2 hs⟩)
  | halt x w' => cases x <;> simp only [Oper.upon, Oper.uponIn] at h ⊢ <;> exact h
def noDefer (ops : Array Oper) : Bool := ops.all fun o => match o.op with | .defer _ => false | _ => true
theorem wpAny_round {P : Program} {md : Region.Mode} {ops : Array Oper} {Q : Exit → Act → World → Prop} {l n : Nat} (hnd : noDefer ops = true) (hQ : ¬ LetsOut Q) : ∀ (fuel : Nat) (listed : Array Bool) (a : Act) (w : World), wpAny P md ops Q fuel listed a w → wpAnyIn (Fence.wide.inRound l) n P md ops Q fuel listed a w
  | 0, _, _, _, h => h
  | fuel + 1, listed, a, w, h => by
    refine ⟨h.1, fun i hi => ?_⟩
    have hop := h.2 i hi
    unfold wpOp at hop
    unfold wpOpIn
    cases ho : ops[i]? with
    | none =>
      rw [ho] at hop
      exact wpAny_round hnd hQ fuel _ a w hop
    | some o =>
      rw [ho] at hop
      simp only at hop ⊢
      split
      · rename_i hw
        rw [if_pos hw] at hop
        rcases hop with hop | hop
        · refine Oper.wpIn_mono (fun a' w' h' => wpAny_round hnd hQ fuel _ a' w' h') (Oper.wp_round (fun c hc => ?_) hop)
          have hall := Array.all_eq_true.1 hnd
          obtain ⟨hlt, e⟩ := Array.getElem?_eq_some_iff.1 ho
          have := hall i hlt
          rw [e, hc] at this
          cases this
        · exact absurd hop.2 hQ
      · rename_i hw
        rw [if_neg hw] at hop
        exact ⟨fun _ _ => trivial, wpAny_round hnd hQ fuel _ _ w hop⟩
theorem wpIn_region_held_round {P : Program} {ops : Array Oper} {Q : Exit → Act → World → Prop} {S : World → Prop} {l n id : Nat} {a : Act} {w : World} (hm : P.follows .mixedOrders = true) (hnd : noDefer ops = true) (hQ : ¬ LetsOut Q) (hS : S w.drew)
    (h : S w.drew → wpAnyH P .any ops Q S ops.size (Array.replicate ops.size false) a w.drew) : (Code.region id ops true).wpIn (Fence.wide.inRound l) n P Q a w :=
  wpIn_region_any hm (wpAny_round hnd hQ _ _ _ _ (wpAny_of_held _ _ _ _ (h hS)))
theorem not_letsOut {α : Type} {Kp : World → World → Prop} {I : List α → World → Prop} {Ix : Code → List α → World → Prop} {xs : List α} {W : World} : ¬ LetsOut (ownPostK Kp I Ix xs W) := by
  rintro ⟨_, _, h⟩; exact h
theorem CK.setAt {K : Nat → Prop} (W : World) {p : Addr} (hK : ∀ b, K b → b ≠ p.block) (u : Value) : CK K W (W.setCell p u) := fun q _ hp hv =>
  (cell_heapP (Below.heap_setCell _ _ _ _ (fun e => hK _ hp (by rw [e])))).trans hv
theorem CK.drew {K : Nat → Prop} {W W' : World} (h : CK K W W') : CK K W W'.drew := h
end Go.Proofs.YteadhacoglcbfaaDoor
namespace Go.Proofs.YteadhacoglcbfaaDoor

open Go.RowKit Go.Shelf

attribute [local go_sem] Oper.semAt_some

def pagePuts (p : Page) : List Put := p.s.l.flatMap fun x => x.s.l
def putsOf (l : List Page) : List Put := l.flatMap pagePuts
/-- What lies below a bound, read through writes above it. -/
def low (n : Nat) (b : Nat) : Prop := b < n
theorem SlOk.low {α : Type} {w w' : World} {n : Nat} {enc : α → List Value} {a : Option Addr} {len cap : Nat} {l : List α} (h : SlOk w n enc a len cap l) (k : CK (low w.heap.size) w w') (hl : 0 < l.length) : ∃ b off, a = some ⟨b, off, none⟩ ∧ RowAt w' n enc b off l := by
  rcases h.2.2.2 with h4 | ⟨b, off, ha, hb, hr⟩
  · rw [h4] at hl; simp at hl
  · exact ⟨b, off, ha, fun i x hx j v hv => k ⟨b, off + i * n + j, none⟩ v hb (hr i x hx j v hv)⟩
theorem cut_at {α : Type} {l : List α} {k : Nat} {x : α} (h : l[k]? = some x) : l = l.take k ++ x :: l.drop (k + 1) := by
  obtain ⟨hk, rfl⟩ := List.getElem?_eq_some_iff.1 h
  rw [List.getElem_cons_drop, List.take_append_drop]
theorem flat_snoc2 {α β : Type} {f : α → List β} {l : List α} {k : Nat} {x : α} (h : l[k]? = some x) : (l.take (k + 1)).flatMap f = (l.take k).flatMap f ++ f x := by
  rw [List.take_add_one, h, List.flatMap_append]; simp
theorem flat_cut {α β : Type} {f : α → List β} {l : List α} {k : Nat} {x : α} (h : l[k]? = some x) : l.flatMap f = (l.take k).flatMap f ++ (f x ++ (l.drop (k + 1)).flatMap f) := by
  conv => lhs; rw [cut_at h, List.flatMap_append, List.flatMap_cons]

theorem post_of {T T2 qs R1 R2 : List Put} {z : Put} {q : Nat} (hz : qs[q]? = some z) : ∃ post, (T ++ T2 ++ qs.take q ++ [z]) ++ post = T ++ ((T2 ++ (qs ++ R2)) ++ R1) := ⟨qs.drop (q + 1) ++ (R2 ++ R1), by
  conv => rhs; rw [cut_at hz]
  simp [List.append_assoc]⟩
end Go.Proofs.YteadhacoglcbfaaDoor
namespace Go.Proofs.YteadhacoglcbfaaDoor

open Go.RowKit

def eqPut (p q : Put) : Bool := p.k == q.k && (p.n == q.n && (p.l == q.l && (p.y == q.y && p.h == q.h)))
theorem eqPut_iff {p q : Put} : eqPut p q = true ↔ p = q := by
  obtain ⟨p0, p1, p2, p3, p4⟩ := p
  obtain ⟨q0, q1, q2, q3, q4⟩ := q
  simp [eqPut]
def eqL {α : Type} (f : α → α → Bool) : List α → List α → Bool
  | [], [] => true
  | x :: a, y :: b => f x y && eqL f a b
  | _, _ => false
theorem eqL_len {α : Type} {f : α → α → Bool} : ∀ {a b : List α}, eqL f a b = true → a.length = b.length
  | [], [], _ => rfl
  | x :: a, y :: b, h => by
    unfold eqL at h
    rw [Bool.and_eq_true] at h
    rw [List.length_cons, List.length_cons, eqL_len h.2]
  | [], _ :: _, h => by unfold eqL at h; cases h
  | _ :: _, [], h => by unfold eqL at h; cases h
theorem eqL_no {α : Type} {f : α → α → Bool} : ∀ {a b : List α} {k : Nat} {x y : α}, a[k]? = some x → b[k]? = some y → f x y = false → eqL f a b = false
  | [], _, k, x, y, h, _, _ => by simp at h
  | _ :: _, [], k, x, y, _, h, _ => by simp at h
  | x' :: a, y' :: b, 0, x, y, h1, h2, h3 => by
    simp only [List.getElem?_cons_zero, Option.some.injEq] at h1 h2
    subst h1; subst h2
    unfold eqL; rw [h3]; rfl
  | x' :: a, y' :: b, k + 1, x, y, h1, h2, h3 => by
    rw [List.getElem?_cons_succ] at h1 h2
    unfold eqL
    rw [eqL_no h1 h2 h3, Bool.and_false]
theorem eqL_yes {α : Type} {f : α → α → Bool} : ∀ {a b : List α}, a.length = b.length → (∀ (k : Nat) (x y : α), a[k]? = some x → b[k]? = some y → f x y = true) → eqL f a b = true
  | [], [], _, _ => rfl
  | x :: a, y :: b, h, hk => by
    unfold eqL
    rw [hk 0 x y rfl rfl, Bool.true_and]
    exact eqL_yes (by simpa using h) fun k x y h1 h2 => hk (k + 1) x y (by simpa using h1) (by simpa using h2)
  | [], _ :: _, h, _ => by simp at h
  | _ :: _, [], h, _ => by simp at h
theorem eqL_neLen {α : Type} {f : α → α → Bool} {a b : List α} (h : a.length ≠ b.length) : eqL f a b = false := by
  rcases hb : eqL f a b with _ | _
  · rfl
  · exact absurd (eqL_len hb) h
def eqLane (x y : Lane) : Bool := x.x == y.x && eqL eqPut x.s.l y.s.l
def eqPage (p q : Page) : Bool := p.t == q.t && (p.f == q.f && (p.l == q.l && eqL eqLane p.s.l q.s.l))
set_option maxHeartbeats 1000000 in
theorem eqPutRun (d : Nat) (w : World) (a0 a1 a2 a3 a4 b0 b1 b2 b3 b4 : Int) :
    (Op.equalIn (d + 3) 33 (.agg #[.int .i64 a0, .int .i64 a1, .int .i64 a2, .int .i64 a3, .int .i64 a4]) (.agg #[.int .i64 b0, .int .i64 b1, .int .i64 b2, .int .i64 b3, .int .i64 b4])).run Tryd.prog w = .ok (a0 == b0 && (a1 == b1 && (a2 == b2 && (a3 == b3 && a4 == b4)))) w := by
  have hu := Tryd.underlying33
  go_simp
  clear hu
  by_cases h0 : a0 = b0 <;> by_cases h1 : a1 = b1 <;> by_cases h2 : a2 = b2 <;> by_cases h3 : a3 = b3 <;> by_cases h4 : a4 = b4 <;> simp_all
set_option maxRecDepth 100000 in
set_option maxHeartbeats 2000000 in
theorem same37_any (a1 a2 : Option Addr) (c1 c2 : Nat) (l1 l2 : List Put) (w : World) (h1 : SlOk w 5 Put.cells a1 l1.length c1 l1) (h2 : SlOk w 5 Put.cells a2 l2.length c2 l2) :
    Calls Tryd.prog 23 #[.slice a1 l1.length c1, .slice a2 l2.length c2] w fun e w' => e = .returned (.bool (eqL eqPut l1 l2)) ∧ Kp w w' := by
  have hc1 := h1.2.1
  have hm1 := h1.2.2.1
  have hc2 := h2.2.1
  have hm2 := h2.2.2.1
  unfold maxLen at hm1 hm2
  have H1 := Lib.hid h1
  have H2 := Lib.hid h2
  have eP := @eqPutRun
  clear h1 h2
  go_enter Tryd.func23, Tryd.ntmps23
  by_cases hln : l1.length = l2.length
  · have hLN := Lib.hid hln
    rw [← hln] at hc2 ⊢
    go_wp2_with fail
    clear hln
    go_loopw [5] (fun v5 wr => ∃ k : Nat, k ≤ l1.length ∧ v5 = .int .i64 k ∧ (∀ j x y, j < k → l1[j]? = some x → l2[j]? = some y → eqPut x y = true) ∧ Kp w wr) (fun v5 _ => l1.length - (intOf v5).toNat)
    case atStart => exact ⟨0, Nat.zero_le _, rfl, fun j x y hj => by omega, (by (repeat (first | with_reducible assumption | with_reducible exact Kp.refl _ | with_reducible refine Kp.drew ?_ | with_reducible refine Kp.drewN ?_ _ | with_reducible refine Kp.alloc ?_ _ | ((with_reducible refine Kp.setCell ?_ ?_ _); rotate_left; (focus (first | omega | (simp; done) | (simp; omega)))) | with_reducible refine Kp.trans ?_ (by assumption))))⟩
    case round =>
      obtain ⟨k, hk, rfl, hall, xk⟩ := hrel
      have HALL := Lib.hid hall
      clear hall
      by_cases hlt : k < l1.length
      · have hlt2 : k < l2.length := by rw [← hLN.out]; exact hlt
        obtain ⟨x, hx⟩ : ∃ x, l1[k]? = some x := ⟨l1[k], List.getElem?_eq_getElem hlt⟩
        obtain ⟨y, hy⟩ : ∃ x, l2[k]? = some x := ⟨l2[k], List.getElem?_eq_getElem hlt2⟩
        have t1 := H1.out.kp xk
        have t2 := H2.out.kp xk
        rcases t1.2.2.2 with e | ⟨ga, oa, rfl, hga, r1⟩
        · rw [e] at hlt; simp at hlt
        rcases t2.2.2.2 with e | ⟨gb, ob, rfl, hgb, r2⟩
        · rw [e] at hlt2; simp at hlt2
        have NO : Hid (eqPut x y = false → eqL eqPut l1 l2 = false) := Lib.hid (fun h => eqL_no hx hy h)
        have YES : Hid (eqPut x y = true → ∀ j x y, j < k + 1 → l1[j]? = some x → l2[j]? = some y → eqPut x y = true) := Lib.hid (fun h j x' y' hj h1 h2 => by
          rcases Nat.lt_or_ge j k with c | c
          · exact HALL.out j x' y' c h1 h2
          · obtain rfl : j = k := by omega
            rw [hx] at h1; rw [hy] at h2
            cases h1; cases h2; exact h)
        have hdef : eqPut x y = (x.k == y.k && (x.n == y.n && (x.l == y.l && (x.y == y.y && x.h == y.h)))) := rfl
        obtain ⟨x0, x1, x2, x3, x4⟩ := x
        obtain ⟨y0, y1, y2, y3, y4⟩ := y
        have d0 := r1 k _ hx 0 _ rfl; have d1 := r1 k _ hx 1 _ rfl; have d2 := r1 k _ hx 2 _ rfl; have d3 := r1 k _ hx 3 _ rfl; have d4 := r1 k _ hx 4 _ rfl
        have f0 := r2 k _ hy 0 _ rfl; have f1 := r2 k _ hy 1 _ rfl; have f2 := r2 k _ hy 2 _ rfl; have f3 := r2 k _ hy 3 _ rfl; have f4 := r2 k _ hy 4 _ rfl
        simp only [Nat.add_zero] at d0 d1 d2 d3 d4 f0 f1 f2 f3 f4 hdef
        have j1 : decide ((k : Int) < (l1.length : Int)) = true := decide_eq_true (by omega)
        have hc2' : k < c2 := by omega
        clear r1 r2 t1 t2 hx hy
        rcases he : eqPut ⟨x0, x1, x2, x3, x4⟩ ⟨y0, y1, y2, y3, y4⟩ with _ | _
        · have hno := NO.out he
          rw [hdef] at he
          have HNO := Lib.hid hno
          clear hdef hno
          go_wp2_with fail
          (refine wp_region_held_drew (S := (fun w' => (∀ b o, b < wr.heap.size → w'.cell? ⟨b, o, none⟩ = wr.cell? ⟨b, o, none⟩) ∧ Kp wr w')) (by kernel_rfl) ?_ (fun hHd => ?_); (focus ((try dsimp only); (first | with_reducible assumption | with_reducible exact held_start _ | with_reducible exact held_next (by assumption) (by assumption) | with_reducible exact held_alloc (by assumption) _ | with_reducible exact held_drew (by assumption) | ((with_reducible refine held_kp ?_); (repeat (first | with_reducible assumption | with_reducible exact Kp.refl _ | with_reducible refine Kp.drew ?_ | with_reducible refine Kp.drewN ?_ _ | with_reducible refine Kp.alloc ?_ _ | ((with_reducible refine Kp.setCell ?_ ?_ _); rotate_left; (focus (first | omega | (simp; done) | (simp; omega)))) | with_reducible refine Kp.trans ?_ (by assumption))))))))
          (refine takeH (i := 0) (oi := ?o1) (v := ?v1) ?h1 (by kernel_rfl) ?q1 (Or.inl ⟨?w1, ?y1⟩) (by assumption) ?r1; (case h1 => ((simp only [g1, g3]); rfl)); (case q1 => exact fun _ _ _ h => h); (case w1 => rfl); (case y1 => (intro w' hSw; (try dsimp only at hSw); go_simp; (try with_reducible rfl))); (try simp only [Act.put, s1, s2, s3]))
          (refine takeH (i := 1) (oi := ?o2) (v := ?v2) ?h2 (by kernel_rfl) ?q2 (Or.inl ⟨?w2, ?y2⟩) (by assumption) ?r2; (case h2 => ((simp only [g1, g2, g3]); rfl)); (case q2 => exact fun _ _ _ h => h); (case w2 => rfl); (case y2 => (intro w' hSw; (try dsimp only at hSw); go_simp; (try with_reducible rfl))); (try simp only [Act.put, s1, s2, s3]))
          (refine takeH (i := 2) (oi := ?o3) (v := ?v3) ?h3 (by kernel_rfl) ?q3 (Or.inl ⟨?w3, ?y3⟩) (by assumption) ?r3; (case h3 => ((simp only [g1, g2, g3]); rfl)); (case q3 => exact fun _ _ _ h => h); (case w3 => rfl); (case y3 => (intro w' hSw; (try dsimp only at hSw); go_simp; (try with_reducible rfl))); (try simp only [Act.put, s1, s2, s3]))
          (refine takeH (i := 3) (oi := ?o4) (v := ?v4) ?h4 (by kernel_rfl) ?q4 (Or.inl ⟨?w4, ?y4⟩) (by assumption) ?r4; (case h4 => ((simp only [g1, g2, g3]); rfl)); (case q4 => exact fun _ _ _ h => h); (case w4 => rfl); (case y4 => (intro w' hSw; (try dsimp only at hSw); go_simp; (try with_reducible rfl))); (try simp only [Act.put, s1, s2, s3]))
          (refine takeH (i := 4) (oi := ?o5) (v := ?v5) ?h5 (by kernel_rfl) ?q5 (Or.inl ⟨?w5, ?y5⟩) (by assumption) ?r5; (case h5 => ((simp only [g1, g2, g3]); rfl)); (case q5 => exact fun _ _ _ h => h); (case w5 => rfl); (case y5 => (intro w' hSw; (try dsimp only at hSw); go_simp; (try with_reducible rfl))); (try simp only [Act.put, s1, s2, s3]))
          (refine takeH (i := 5) (oi := ?o6) (v := ?v6) ?h6 (by kernel_rfl) ?q6 (Or.inl ⟨?w6, ?y6⟩) (by assumption) ?r6; (case h6 => ((simp only [g1, g2, g3]); rfl)); (case q6 => exact fun _ _ _ h => h); (case w6 => rfl); (case y6 => (intro w' hSw; (try dsimp only at hSw); go_simp; (try with_reducible rfl))); (try simp only [Act.put, s1, s2, s3]))
          (refine takeH (i := 6) (oi := ?o7) (v := ?v7) ?h7 (by kernel_rfl) ?q7 (Or.inl ⟨?w7, ?y7⟩) (by assumption) ?r7; (case h7 => ((simp only [g1, g2, g3]); rfl)); (case q7 => exact fun _ _ _ h => h); (case w7 => rfl); (case y7 => (intro w' hSw; (try dsimp only at hSw); go_simp; (try with_reducible rfl))); (try simp only [Act.put, s1, s2, s3]))
          (refine takeH (i := 7) (oi := ?o8) (v := ?v8) ?h8 (by kernel_rfl) ?q8 (Or.inl ⟨?w8, ?y8⟩) (by assumption) ?r8; (case h8 => ((simp only [g1, g2, g3]); rfl)); (case q8 => exact fun _ _ _ h => h); (case w8 => rfl); (case y8 => (intro w' hSw; (try dsimp only at hSw); go_simp; (try with_reducible rfl))); (try simp only [Act.put, s1, s2, s3]))
          (refine takeH (i := 8) (oi := ?o9) (v := ?v9) ?h9 (by kernel_rfl) ?q9 (Or.inl ⟨?w9, ?y9⟩) (by assumption) ?r9; (case h9 => ((simp only [g1, g2, g3]); rfl)); (case q9 => exact fun _ _ _ h => h); (case w9 => rfl); (case y9 => (intro w' hSw; (try dsimp only at hSw); go_simp; (try with_reducible rfl))); (try simp only [Act.put, s1, s2, s3]))
          refine wpAnyH_done (by kernel_rfl) ?_ _
          go_wp2_with fail
          (try go_ret)
          exact ⟨by rw [HNO.out]; rfl, (by (repeat (first | with_reducible assumption | with_reducible exact Kp.refl _ | with_reducible refine Kp.drew ?_ | with_reducible refine Kp.drewN ?_ _ | with_reducible refine Kp.alloc ?_ _ | ((with_reducible refine Kp.setCell ?_ ?_ _); rotate_left; (focus (first | omega | (simp; done) | (simp; omega)))) | with_reducible refine Kp.trans ?_ (by assumption))))⟩
        · have hys := YES.out he
          have hxy := eqPut_iff.1 he
          cases hxy
          have HYS := Lib.hid hys
          clear hdef hys he
          go_wp2_with fail
          (refine wp_region_held_drew (S := (fun w' => (∀ b o, b < wr.heap.size → w'.cell? ⟨b, o, none⟩ = wr.cell? ⟨b, o, none⟩) ∧ Kp wr w')) (by kernel_rfl) ?_ (fun hHd => ?_); (focus ((try dsimp only); (first | with_reducible assumption | with_reducible exact held_start _ | with_reducible exact held_next (by assumption) (by assumption) | with_reducible exact held_alloc (by assumption) _ | with_reducible exact held_drew (by assumption) | ((with_reducible refine held_kp ?_); (repeat (first | with_reducible assumption | with_reducible exact Kp.refl _ | with_reducible refine Kp.drew ?_ | with_reducible refine Kp.drewN ?_ _ | with_reducible refine Kp.alloc ?_ _ | ((with_reducible refine Kp.setCell ?_ ?_ _); rotate_left; (focus (first | omega | (simp; done) | (simp; omega)))) | with_reducible refine Kp.trans ?_ (by assumption))))))))
          (refine takeH (i := 0) (oi := ?o10) (v := ?v10) ?h10 (by kernel_rfl) ?q10 (Or.inl ⟨?w10, ?y10⟩) (by assumption) ?r10; (case h10 => ((simp only [g1, g3]); rfl)); (case q10 => exact fun _ _ _ h => h); (case w10 => rfl); (case y10 => (intro w' hSw; (try dsimp only at hSw); go_simp; (try with_reducible rfl))); (try simp only [Act.put, s1, s2, s3]))
          (refine takeH (i := 1) (oi := ?o11) (v := ?v11) ?h11 (by kernel_rfl) ?q11 (Or.inl ⟨?w11, ?y11⟩) (by assumption) ?r11; (case h11 => ((simp only [g1, g2, g3]); rfl)); (case q11 => exact fun _ _ _ h => h); (case w11 => rfl); (case y11 => (intro w' hSw; (try dsimp only at hSw); go_simp; (try with_reducible rfl))); (try simp only [Act.put, s1, s2, s3]))
          (refine takeH (i := 2) (oi := ?o12) (v := ?v12) ?h12 (by kernel_rfl) ?q12 (Or.inl ⟨?w12, ?y12⟩) (by assumption) ?r12; (case h12 => ((simp only [g1, g2, g3]); rfl)); (case q12 => exact fun _ _ _ h => h); (case w12 => rfl); (case y12 => (intro w' hSw; (try dsimp only at hSw); go_simp; (try with_reducible rfl))); (try simp only [Act.put, s1, s2, s3]))
          (refine takeH (i := 3) (oi := ?o13) (v := ?v13) ?h13 (by kernel_rfl) ?q13 (Or.inl ⟨?w13, ?y13⟩) (by assumption) ?r13; (case h13 => ((simp only [g1, g2, g3]); rfl)); (case q13 => exact fun _ _ _ h => h); (case w13 => rfl); (case y13 => (intro w' hSw; (try dsimp only at hSw); go_simp; (try with_reducible rfl))); (try simp only [Act.put, s1, s2, s3]))
          (refine takeH (i := 4) (oi := ?o14) (v := ?v14) ?h14 (by kernel_rfl) ?q14 (Or.inl ⟨?w14, ?y14⟩) (by assumption) ?r14; (case h14 => ((simp only [g1, g2, g3]); rfl)); (case q14 => exact fun _ _ _ h => h); (case w14 => rfl); (case y14 => (intro w' hSw; (try dsimp only at hSw); go_simp; (try with_reducible rfl))); (try simp only [Act.put, s1, s2, s3]))
          (refine takeH (i := 5) (oi := ?o15) (v := ?v15) ?h15 (by kernel_rfl) ?q15 (Or.inl ⟨?w15, ?y15⟩) (by assumption) ?r15; (case h15 => ((simp only [g1, g2, g3]); rfl)); (case q15 => exact fun _ _ _ h => h); (case w15 => rfl); (case y15 => (intro w' hSw; (try dsimp only at hSw); go_simp; (try with_reducible rfl))); (try simp only [Act.put, s1, s2, s3]))
          (refine takeH (i := 6) (oi := ?o16) (v := ?v16) ?h16 (by kernel_rfl) ?q16 (Or.inl ⟨?w16, ?y16⟩) (by assumption) ?r16; (case h16 => ((simp only [g1, g2, g3]); rfl)); (case q16 => exact fun _ _ _ h => h); (case w16 => rfl); (case y16 => (intro w' hSw; (try dsimp only at hSw); go_simp; (try with_reducible rfl))); (try simp only [Act.put, s1, s2, s3]))
          (refine takeH (i := 7) (oi := ?o17) (v := ?v17) ?h17 (by kernel_rfl) ?q17 (Or.inl ⟨?w17, ?y17⟩) (by assumption) ?r17; (case h17 => ((simp only [g1, g2, g3]); rfl)); (case q17 => exact fun _ _ _ h => h); (case w17 => rfl); (case y17 => (intro w' hSw; (try dsimp only at hSw); go_simp; (try with_reducible rfl))); (try simp only [Act.put, s1, s2, s3]))
          (refine takeH (i := 8) (oi := ?o18) (v := ?v18) ?h18 (by kernel_rfl) ?q18 (Or.inl ⟨?w18, ?y18⟩) (by assumption) ?r18; (case h18 => ((simp only [g1, g2, g3]); rfl)); (case q18 => exact fun _ _ _ h => h); (case w18 => rfl); (case y18 => (intro w' hSw; (try dsimp only at hSw); go_simp; (try with_reducible rfl))); (try simp only [Act.put, s1, s2, s3]))
          refine wpAnyH_done (by kernel_rfl) ?_ _
          go_wp2_with fail
          go_roundw
          case rel => exact ⟨k + 1, by omega, by go_num, HYS.out, (by (repeat (first | with_reducible assumption | with_reducible exact Kp.refl _ | with_reducible refine Kp.drew ?_ | with_reducible refine Kp.drewN ?_ _ | with_reducible refine Kp.alloc ?_ _ | ((with_reducible refine Kp.setCell ?_ ?_ _); rotate_left; (focus (first | omega | (simp; done) | (simp; omega)))) | with_reducible refine Kp.trans ?_ (by assumption))))⟩
          case measure => simp [intOf]; omega
      · obtain rfl : k = l1.length := by omega
        have j1 : decide ((l1.length : Int) < (l1.length : Int)) = false := decide_eq_false (by omega)
        have hy : eqL eqPut l1 l2 = true := eqL_yes hLN.out fun j x y h1 h2 => HALL.out j x y (List.getElem?_eq_some_iff.1 h1).1 h1 h2
        have HY := Lib.hid hy
        clear hy
        go_wp2_with fail
        (try go_ret)
        exact ⟨by rw [HY.out]; rfl, xk⟩
  · have HN := Lib.hid (eqL_neLen (f := eqPut) hln)
    have hj : ((l1.length : Int) == (l2.length : Int)) = false := by simp; omega
    go_wp2_with fail
    (try go_ret)
    exact ⟨by rw [HN.out]; rfl, (by (repeat (first | with_reducible assumption | with_reducible exact Kp.refl _ | with_reducible refine Kp.drew ?_ | with_reducible refine Kp.drewN ?_ _ | with_reducible refine Kp.alloc ?_ _ | ((with_reducible refine Kp.setCell ?_ ?_ _); rotate_left; (focus (first | omega | (simp; done) | (simp; omega)))) | with_reducible refine Kp.trans ?_ (by assumption))))⟩
end Go.Proofs.YteadhacoglcbfaaDoor
