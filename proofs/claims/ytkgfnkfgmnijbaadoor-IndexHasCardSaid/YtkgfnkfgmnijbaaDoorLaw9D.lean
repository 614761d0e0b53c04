/- The law IndexHas: each mark is in the index, with its page; entries and pages rise. -/
import Derived.Test.YtkgfnkfgmnijbaaDoorLaw9C

namespace Go.Proofs.YtkgfnkfgmnijbaaDoor

open Go.RowKit

/-- One element of a slice, as a slice. -/
theorem SlOk.one {α : Type} {w : World} {n : Nat} {enc : α → List Value} {b off len cap : Nat} {l : List α} (h : SlOk w n enc (some ⟨b, off, none⟩) len cap l) {i : Nat} {x : α} (hx : l[i]? = some x) : SlOk w n enc (some ⟨b, off + i * n, none⟩) 1 (cap - i) [x] := by
  have hi := (List.getElem?_eq_some_iff.1 hx).1
  have h1 := h.1
  have h2 := h.2.1
  have hh := SlOk.part h (lo := i) (hi := i + 1) (c := cap - i) (by omega) (by omega) (by omega) (by omega)
  have e : (l.take (i + 1)).drop i = [x] := by
    rw [take_snoc hx, List.drop_append_of_le_length (by rw [List.length_take]; omega), List.drop_of_length_le (by rw [List.length_take]; omega)]
    rfl
  rw [e] at hh
  exact hh
set_option maxRecDepth 100000 in
set_option maxHeartbeats 8000000 in
theorem indexHas_main (a ca : Option Addr) (cap ccap : Nat) (l : List Item) (cs : List Col) (P : Nat) (w : World) (he : Env w) (hl : SlOk w 7 Item.cells a l.length cap l) (hc : SlOk w 6 Col.cells ca cs.length ccap cs) (h4 : l.length ≤ 100) (h6 : cs.length ≤ 60) (hi : ∀ x, x ∈ l → I64 x.n) (hP : 1 ≤ P) (hP2 : P ≤ 100) :
    Calls Tryd.prog 5 #[.slice a l.length cap, .slice ca cs.length ccap, .int .i64 (P : Int)] w fun e w' => e = .returned (.bool true) ∧ Kp w w' := by
  have C1 : Hid (∀ w', Kp w w' → Calls Tryd.prog 13 #[.slice a l.length cap, .slice ca cs.length ccap, .int .i64 (P : Int)] w' fun e w'' => ∃ ra rc L, e = .returned (.slice ra L.length rc) ∧ SlOk w'' 2 Ent.cells ra L.length rc L ∧ (∀ y, y ∈ L → y.good w'') ∧ IsIndex (grpF (pagesL l cs P)) L ∧ Kp w' w'') := Lib.hid fun w' k => indexOf_yes a ca cap ccap l cs P w' (hl.kp k) (hc.kp k) h4 h6 hi hP (by omega)
  have HE := Lib.hid he
  have HC := Lib.hid hc
  have HLI := Lib.hid hl
  have HII := Lib.hid hi
  have hcl := hc.2.1
  have hcm := hc.2.2.1
  unfold maxLen at hcm
  have j1 : decide ((100 : Int) < (l.length : Int)) = false := decide_eq_false (by omega)
  have j2 : decide ((60 : Int) < (cs.length : Int)) = false := decide_eq_false (by omega)
  have j3 : decide ((P : Int) < 1) = false := decide_eq_false (by omega)
  have j4 : decide ((100 : Int) < (P : Int)) = false := decide_eq_false (by omega)
  clear he hl hc hi
  go_enter Tryd.func5, Tryd.ntmps5
  go_wp2_with fail
  refine (C1.out _ (by (repeat (first | with_reducible assumption | with_reducible exact Kp.refl _ | with_reducible refine Kp.drew ?_ | with_reducible refine Kp.drewN ?_ _ | with_reducible refine Kp.alloc ?_ _ | ((with_reducible refine Kp.setCell ?_ ?_ _); rotate_left; (focus (first | omega | (simp; done) | (simp; omega)))) | with_reducible refine Kp.trans ?_ (by assumption))))).mono ?_
  rintro e w1 ⟨ra, rc, L, rfl, hs, hg, hx, k1⟩
  have kw1 : Kp w w1 := k1
  have HS := Lib.hid hs
  have HG := Lib.hid hg
  have HX := Lib.hid hx
  have m1 := hs.2.1
  have m3 := hs.2.2.1
  unfold maxLen at m3
  clear hs hg hx C1 k1
  go_wp2_with fail
  go_loopw [8] (fun v8 wr => ∃ k : Nat, k ≤ cs.length ∧ v8 = .int .i64 (k : Int) ∧ Kp w1 wr) (fun v8 _ => cs.length - (intOf v8).toNat)
  case atStart => exact ⟨0, Nat.zero_le _, rfl, (by (repeat (first | with_reducible assumption | with_reducible exact Kp.refl _ | with_reducible refine Kp.drew ?_ | with_reducible refine Kp.drewN ?_ _ | with_reducible refine Kp.alloc ?_ _ | ((with_reducible refine Kp.setCell ?_ ?_ _); rotate_left; (focus (first | omega | (simp; done) | (simp; omega)))) | with_reducible refine Kp.trans ?_ (by assumption))))⟩
  case round =>
    obtain ⟨k, hk, rfl, xk⟩ := hrel
    by_cases hlt : k < cs.length
    · obtain ⟨c, hcx⟩ : ∃ c, cs[k]? = some c := ⟨cs[k], List.getElem?_eq_getElem hlt⟩
      rcases HC.out.2.2.2 with e | ⟨b, off, rfl, hb, _⟩
      · rw [e] at hlt; simp at hlt
      have hone := SlOk.one HC.out hcx
      obtain ⟨M, hM⟩ : ∃ M, pageL l [c] = M := ⟨_, rfl⟩
      have CP : Hid (∀ w', Kp w w' → Calls Tryd.prog 18 #[.slice a l.length cap, .slice (some ⟨b, off + k * 6, none⟩) 1 (ccap - k)] w' fun e w'' => ∃ v, e = .returned v ∧ Row w'' w'.heap.size 3 1 enc1 v M ∧ Kp w' w'') := Lib.hid fun w' kk => by
        rw [← hM]
        exact refPage_any a (some ⟨b, off + k * 6, none⟩) cap (ccap - k) l [c] w' (HLI.out.kp kk) (hone.kp kk) h4 (by simp)
      have hML : M.length ≤ 100 := by
        rw [← hM]
        have := pageL_length l h4 [c]
        simpa using this
      have HMI : Hid (∀ m, m ∈ M → I64 m ∧ ((k / P : Nat) : Int) ∈ pagesOf L m) := Lib.hid fun m hm => by
        rw [← hM] at hm
        have hin := has_page hP hcx hm
        obtain ⟨y, hy, e⟩ := page_in hm
        have him : I64 m := e ▸ HII.out y hy
        refine ⟨him, ?_⟩
        rw [pagesOf_index HX.out him (fun e => by rw [e] at hin; cases hin)]
        exact hin
      have ji : decide ((k : Int) < (cs.length : Int)) = true := decide_eq_true (by omega)
      have e1 : IntKind.i64.wrap ((k : Int) + 1) = ((k + 1 : Nat) : Int) := by rw [IntKind.wrap_i64]; omega
      have hc1 : k ≤ ccap := by omega
      have hc2 : k + 1 ≤ ccap := by omega
      have hc3 : ¬ ccap = k := by omega
      have hc4 : ¬ ccap = 0 := by omega
      have hc5 : k + 1 - k = 1 := by omega
      clear hone hcx hM HX
      go_wp2_with fail
      refine (CP.out _ (kw1.trans xk)).mono ?_
      rintro e w2 ⟨v2, rfl, hr2, k2⟩
      obtain ⟨ma, mc, rfl, hs2⟩ := hr2.sl (fun _ => rfl)
      have hml := hs2.2.1
      have hmm := hs2.2.2.1
      unfold maxLen at hmm
      have HM2 := Lib.hid hs2
      have xk2 := xk.trans k2
      obtain ⟨q, hq⟩ : ∃ q, k / P = q := ⟨_, rfl⟩
      have hqt : Int.tdiv (k : Int) (P : Int) = (q : Int) := by rw [← hq]; rfl
      have hqP : q ≤ k := by rw [← hq]; exact Nat.div_le_self _ _
      have ewq : IntKind.i64.wrap (q : Int) = (q : Int) := by rw [IntKind.wrap_i64]; omega
      have hP0 : ((P : Int) == 0) = false := by simp; omega
      have hP1 : ¬ (P : Int) = 0 := by omega
      have hP3 : ¬ P = 0 := by omega
      rw [hq] at HMI
      clear hr2 hs2 k2 hq CP hc1 hc2 hc3 hc4 hc5 e1 xk
      go_wp2_with fail
      go_loopw [10] (fun v10 wr' => ∃ j : Nat, j ≤ M.length ∧ v10 = .int .i64 (j : Int) ∧ Kp w2 wr') (fun v10 _ => M.length - (intOf v10).toNat)
      case atStart => exact ⟨0, Nat.zero_le _, rfl, (by (repeat (first | with_reducible assumption | with_reducible exact Kp.refl _ | with_reducible refine Kp.drew ?_ | with_reducible refine Kp.drewN ?_ _ | with_reducible refine Kp.alloc ?_ _ | ((with_reducible refine Kp.setCell ?_ ?_ _); rotate_left; (focus (first | omega | (simp; done) | (simp; omega)))) | with_reducible refine Kp.trans ?_ (by assumption))))⟩
      case round =>
        obtain ⟨j, hj, rfl, yk⟩ := hrel
        obtain ⟨wo, rfl⟩ : ∃ u, u = wr := ⟨_, rfl⟩
        by_cases hlt3 : j < M.length
        · obtain ⟨x, hx⟩ : ∃ x, M[j]? = some x := ⟨M[j], List.getElem?_eq_getElem hlt3⟩
          obtain ⟨him, hin⟩ := HMI.out x (List.mem_of_getElem? hx)
          obtain ⟨ga, go, rfl, hga, r1⟩ := entsOfSl (HM2.out.kp yk) (by omega)
          have d0 := r1 j _ hx 0 _ rfl
          simp only [Nat.add_zero, Nat.mul_one] at d0
          have jj : decide ((j : Int) < (M.length : Int)) = true := decide_eq_true (by omega)
          have hgf : (pagesOf L x).length ≤ 1000 := by
            unfold pagesOf
            cases hq : entOf L x with
            | none => simp
            | some y =>
              unfold entOf at hq
              exact (HG.out y (List.mem_of_find?_eq_some hq)).few
          have CF : Hid (∀ w', Kp w1 w' → Calls Tryd.prog 16 #[.slice ra L.length rc, .int .i64 x] w' fun e w'' => (∃ ra rc, e = .returned (.slice ra (pagesOf L x).length rc) ∧ SlOk w'' 1 enc1 ra (pagesOf L x).length rc (pagesOf L x)) ∧ Kp w' w'') := Lib.hid fun w' k => find_any ra rc L x w' (HS.out.kp k) (fun y hy => (HG.out y hy).kp k)
          obtain ⟨G, hG⟩ : ∃ G, pagesOf L x = G := ⟨_, rfl⟩
          rw [hG] at CF hin hgf
          have HIN := Lib.hid hin
          clear r1 hx hin hG
          go_wp2_with fail
          refine (CF.out _ (xk2.trans yk)).mono ?_
          rintro e w3 ⟨⟨pa, pc, rfl, hs3⟩, k3⟩
          have hpl := hs3.2.1
          have hpm := hs3.2.2.1
          unfold maxLen at hpm
          have HP3 := Lib.hid hs3
          have yk3 := yk.trans k3
          clear hs3 k3 CF
          go_wp2_with fail
          go_loopw [11, 13] (fun v11 v13 wr' => ∃ i : Nat, i ≤ G.length ∧ v13 = .int .i64 (i : Int) ∧ v11 = .bool (decide ((q : Int) ∈ G.take i)) ∧ Kp w3 wr') (fun _ v13 _ => G.length - (intOf v13).toNat)
          case atStart => exact ⟨0, Nat.zero_le _, rfl, by simp, (by (repeat (first | with_reducible assumption | with_reducible exact Kp.refl _ | with_reducible refine Kp.drew ?_ | with_reducible refine Kp.drewN ?_ _ | with_reducible refine Kp.alloc ?_ _ | ((with_reducible refine Kp.setCell ?_ ?_ _); rotate_left; (focus (first | omega | (simp; done) | (simp; omega)))) | with_reducible refine Kp.trans ?_ (by assumption))))⟩
          case round =>
            obtain ⟨i, hi, rfl, rfl, zk⟩ := hrel
            by_cases hlt4 : i < G.length
            · obtain ⟨z, hz⟩ : ∃ x, G[i]? = some x := ⟨G[i], List.getElem?_eq_getElem hlt4⟩
              obtain ⟨gb, ob, rfl, hgb, r2⟩ := entsOfSl (HP3.out.kp zk) (by omega)
              have d1 := r2 i _ hz 0 _ rfl
              simp only [Nat.add_zero, Nat.mul_one] at d1
              have jg : decide ((i : Int) < (G.length : Int)) = true := decide_eq_true (by omega)
              have hsn := in_snoc hz (q : Int)
              cases hd : decide ((q : Int) ∈ G.take i)
              · rw [hd, Bool.false_or] at hsn
                have HSN := Lib.hid hsn
                clear hsn hd hz r2 HIN
                go_wp2_with fail
                (refine wp_region_held_drew (S := (fun w' => (∀ b o, b < wr.heap.size → w'.cell? ⟨b, o, none⟩ = wr.cell? ⟨b, o, none⟩) ∧ Kp wr w')) (by kernel_rfl) ?_ (fun hHd => ?_); (focus ((try dsimp only); (first | with_reducible assumption | with_reducible exact held_start _ | with_reducible exact held_next (by assumption) (by assumption) | with_reducible exact held_alloc (by assumption) _ | with_reducible exact held_drew (by assumption) | ((with_reducible refine held_kp ?_); (repeat (first | with_reducible assumption | with_reducible exact Kp.refl _ | with_reducible refine Kp.drew ?_ | with_reducible refine Kp.drewN ?_ _ | with_reducible refine Kp.alloc ?_ _ | ((with_reducible refine Kp.setCell ?_ ?_ _); rotate_left; (focus (first | omega | (simp; done) | (simp; omega)))) | with_reducible refine Kp.trans ?_ (by assumption))))))))
                (refine takeH (i := 0) (oi := ?o1) (v := ?v1) ?h1 (by kernel_rfl) ?q1 (Or.inl ⟨?w1, ?y1⟩) (by assumption) ?r1; (case h1 => ((simp only [g1, g3]); rfl)); (case q1 => exact fun _ _ _ h => h); (case w1 => rfl); (case y1 => (intro w' hSw; (try dsimp only at hSw); go_simp; (try with_reducible rfl))); (try simp only [Act.put, s1, s2, s3]))
                (refine takeH (i := 1) (oi := ?o2) (v := ?v2) ?h2 (by kernel_rfl) ?q2 (Or.inl ⟨?w2, ?y2⟩) (by assumption) ?r2; (case h2 => ((simp only [g1, g2, g3]); rfl)); (case q2 => exact fun _ _ _ h => h); (case w2 => rfl); (case y2 => (intro w' hSw; (try dsimp only at hSw); go_simp; (try with_reducible rfl))); (try simp only [Act.put, s1, s2, s3]))
                (refine takeH (i := 2) (oi := ?o3) (v := ?v3) ?h3 (by kernel_rfl) ?q3 (Or.inl ⟨?w3, ?y3⟩) (by assumption) ?r3; (case h3 => ((simp only [g1, g2, g3]); rfl)); (case q3 => exact fun _ _ _ h => h); (case w3 => rfl); (case y3 => (intro w' hSw; (try dsimp only at hSw); go_simp; (try with_reducible rfl))); (try simp only [Act.put, s1, s2, s3]))
                (refine takeH (i := 3) (oi := ?o4) (v := ?v4) ?h4 (by kernel_rfl) ?q4 (Or.inl ⟨?w4, ?y4⟩) (by assumption) ?r4; (case h4 => ((simp only [g1, g2, g3]); rfl)); (case q4 => exact fun _ _ _ h => h); (case w4 => rfl); (case y4 => (intro w' hSw; (try dsimp only at hSw); go_simp; (try with_reducible rfl))); (try simp only [Act.put, s1, s2, s3]))
                (refine takeH (i := 4) (oi := ?o5) (v := ?v5) ?h5 (by kernel_rfl) ?q5 (Or.inl ⟨?w5, ?y5⟩) (by assumption) ?r5; (case h5 => ((simp only [g1, g2, g3]); rfl)); (case q5 => exact fun _ _ _ h => h); (case w5 => rfl); (case y5 => (intro w' hSw; (try dsimp only at hSw); go_simp; (try with_reducible rfl))); (try simp only [Act.put, s1, s2, s3]))
                (refine takeH (i := 5) (oi := ?o6) (v := ?v6) ?h6 (by kernel_rfl) ?q6 (Or.inl ⟨?w6, ?y6⟩) (by assumption) ?r6; (case h6 => ((simp only [g1, g2, g3]); rfl)); (case q6 => exact fun _ _ _ h => h); (case w6 => rfl); (case y6 => (intro w' hSw; (try dsimp only at hSw); go_simp; (try with_reducible rfl))); (try simp only [Act.put, s1, s2, s3]))
                (refine takeH (i := 6) (oi := ?o7) (v := ?v7) ?h7 (by kernel_rfl) ?q7 (Or.inl ⟨?w7, ?y7⟩) (by assumption) ?r7; (case h7 => ((simp only [g1, g2, g3]); rfl)); (case q7 => exact fun _ _ _ h => h); (case w7 => rfl); (case y7 => (intro w' hSw; (try dsimp only at hSw); go_simp; (try with_reducible rfl))); (try simp only [Act.put, s1, s2, s3]))
                (refine takeH (i := 7) (oi := ?o8) (v := ?v8) ?h8 (by kernel_rfl) ?q8 (Or.inl ⟨?w8, ?y8⟩) (by assumption) ?r8; (case h8 => ((simp only [g1, g2, g3]); rfl)); (case q8 => exact fun _ _ _ h => h); (case w8 => rfl); (case y8 => (intro w' hSw; (try dsimp only at hSw); go_simp; (try with_reducible rfl))); (try simp only [Act.put, s1, s2, s3]))
                (refine takeH (i := 8) (oi := ?o9) (v := ?v9) ?h9 (by kernel_rfl) ?q9 (Or.inl ⟨?w9, ?y9⟩) (by assumption) ?r9; (case h9 => ((simp only [g1, g2, g3]); rfl)); (case q9 => exact fun _ _ _ h => h); (case w9 => rfl); (case y9 => (intro w' hSw; (try dsimp only at hSw); go_simp; (try with_reducible rfl))); (try simp only [Act.put, s1, s2, s3]))
                (refine takeH (i := 9) (oi := ?o10) (v := ?v10) ?h10 (by kernel_rfl) ?q10 (Or.inl ⟨?w10, ?y10⟩) (by assumption) ?r10; (case h10 => ((simp only [g1, g2, g3]); rfl)); (case q10 => exact fun _ _ _ h => h); (case w10 => rfl); (case y10 => (intro w' hSw; (try dsimp only at hSw); go_simp; (try with_reducible rfl))); (try simp only [Act.put, s1, s2, s3]))
                (refine takeH (i := 10) (oi := ?o11) (v := ?v11) ?h11 (by kernel_rfl) ?q11 (Or.inl ⟨?w11, ?y11⟩) (by assumption) ?r11; (case h11 => ((simp only [g1, g2, g3]); rfl)); (case q11 => exact fun _ _ _ h => h); (case w11 => rfl); (case y11 => (intro w' hSw; (try dsimp only at hSw); go_simp; (try with_reducible rfl))); (try simp only [Act.put, s1, s2, s3]))
                (refine takeH (i := 11) (oi := ?o12) (v := ?v12) ?h12 (by kernel_rfl) ?q12 (Or.inl ⟨?w12, ?y12⟩) (by assumption) ?r12; (case h12 => ((simp only [g1, g2, g3]); rfl)); (case q12 => exact fun _ _ _ h => h); (case w12 => rfl); (case y12 => (intro w' hSw; (try dsimp only at hSw); go_simp; (try with_reducible rfl))); (try simp only [Act.put, s1, s2, s3]))
                refine wpAnyH_done (by kernel_rfl) ?_ _
                go_wp2_with fail
                go_roundw
                case rel => exact ⟨i + 1, by omega, by go_num, by rw [HSN.out], zk.trans hHd.2⟩
                case measure => simp [intOf]; omega
              · rw [hd, Bool.true_or] at hsn
                have HSN := Lib.hid hsn
                clear hsn hd hz r2 HIN
                go_wp2_with fail
                (refine wp_region_held_drew (S := (fun w' => (∀ b o, b < wr.heap.size → w'.cell? ⟨b, o, none⟩ = wr.cell? ⟨b, o, none⟩) ∧ Kp wr w')) (by kernel_rfl) ?_ (fun hHd => ?_); (focus ((try dsimp only); (first | with_reducible assumption | with_reducible exact held_start _ | with_reducible exact held_next (by assumption) (by assumption) | with_reducible exact held_alloc (by assumption) _ | with_reducible exact held_drew (by assumption) | ((with_reducible refine held_kp ?_); (repeat (first | with_reducible assumption | with_reducible exact Kp.refl _ | with_reducible refine Kp.drew ?_ | with_reducible refine Kp.drewN ?_ _ | with_reducible refine Kp.alloc ?_ _ | ((with_reducible refine Kp.setCell ?_ ?_ _); rotate_left; (focus (first | omega | (simp; done) | (simp; omega)))) | with_reducible refine Kp.trans ?_ (by assumption))))))))
                (refine takeH (i := 0) (oi := ?o13) (v := ?v13) ?h13 (by kernel_rfl) ?q13 (Or.inl ⟨?w13, ?y13⟩) (by assumption) ?r13; (case h13 => ((simp only [g1, g3]); rfl)); (case q13 => exact fun _ _ _ h => h); (case w13 => rfl); (case y13 => (intro w' hSw; (try dsimp only at hSw); go_simp; (try with_reducible rfl))); (try simp only [Act.put, s1, s2, s3]))
                (refine takeH (i := 1) (oi := ?o14) (v := ?v14) ?h14 (by kernel_rfl) ?q14 (Or.inl ⟨?w14, ?y14⟩) (by assumption) ?r14; (case h14 => ((simp only [g1, g2, g3]); rfl)); (case q14 => exact fun _ _ _ h => h); (case w14 => rfl); (case y14 => (intro w' hSw; (try dsimp only at hSw); go_simp; (try with_reducible rfl))); (try simp only [Act.put, s1, s2, s3]))
                (refine takeH (i := 2) (oi := ?o15) (v := undef) ?h15 (by kernel_rfl) ?q15 (Or.inr ⟨?w15, rfl⟩) (by assumption) ?r15; (case h15 => ((simp only [g1, g2, g3]); rfl)); (case q15 => exact fun _ _ _ h => h); (case w15 => rfl); (try simp only [Act.put, s1, s2, s3]))
                (refine takeH (i := 3) (oi := ?o16) (v := undef) ?h16 (by kernel_rfl) ?q16 (Or.inr ⟨?w16, rfl⟩) (by assumption) ?r16; (case h16 => ((simp only [g1, g2, g3]); rfl)); (case q16 => exact fun _ _ _ h => h); (case w16 => rfl); (try simp only [Act.put, s1, s2, s3]))
                (refine takeH (i := 4) (oi := ?o17) (v := undef) ?h17 (by kernel_rfl) ?q17 (Or.inr ⟨?w17, rfl⟩) (by assumption) ?r17; (case h17 => ((simp only [g1, g2, g3]); rfl)); (case q17 => exact fun _ _ _ h => h); (case w17 => rfl); (try simp only [Act.put, s1, s2, s3]))
                (refine takeH (i := 5) (oi := ?o18) (v := undef) ?h18 (by kernel_rfl) ?q18 (Or.inr ⟨?w18, rfl⟩) (by assumption) ?r18; (case h18 => ((simp only [g1, g2, g3]); rfl)); (case q18 => exact fun _ _ _ h => h); (case w18 => rfl); (try simp only [Act.put, s1, s2, s3]))
                (refine takeH (i := 6) (oi := ?o19) (v := undef) ?h19 (by kernel_rfl) ?q19 (Or.inr ⟨?w19, rfl⟩) (by assumption) ?r19; (case h19 => ((simp only [g1, g2, g3]); rfl)); (case q19 => exact fun _ _ _ h => h); (case w19 => rfl); (try simp only [Act.put, s1, s2, s3]))
                (refine takeH (i := 7) (oi := ?o20) (v := undef) ?h20 (by kernel_rfl) ?q20 (Or.inr ⟨?w20, rfl⟩) (by assumption) ?r20; (case h20 => ((simp only [g1, g2, g3]); rfl)); (case q20 => exact fun _ _ _ h => h); (case w20 => rfl); (try simp only [Act.put, s1, s2, s3]))
                (refine takeH (i := 8) (oi := ?o21) (v := undef) ?h21 (by kernel_rfl) ?q21 (Or.inr ⟨?w21, rfl⟩) (by assumption) ?r21; (case h21 => ((simp only [g1, g2, g3]); rfl)); (case q21 => exact fun _ _ _ h => h); (case w21 => rfl); (try simp only [Act.put, s1, s2, s3]))
                (refine takeH (i := 9) (oi := ?o22) (v := undef) ?h22 (by kernel_rfl) ?q22 (Or.inr ⟨?w22, rfl⟩) (by assumption) ?r22; (case h22 => ((simp only [g1, g2, g3]); rfl)); (case q22 => exact fun _ _ _ h => h); (case w22 => rfl); (try simp only [Act.put, s1, s2, s3]))
                (refine takeH (i := 10) (oi := ?o23) (v := ?v23) ?h23 (by kernel_rfl) ?q23 (Or.inl ⟨?w23, ?y23⟩) (by assumption) ?r23; (case h23 => ((simp only [g1, g2, g3]); rfl)); (case q23 => exact fun _ _ _ h => h); (case w23 => rfl); (case y23 => (intro w' hSw; (try dsimp only at hSw); go_simp; (try with_reducible rfl))); (try simp only [Act.put, s1, s2, s3]))
                (refine takeH (i := 11) (oi := ?o24) (v := ?v24) ?h24 (by kernel_rfl) ?q24 (Or.inl ⟨?w24, ?y24⟩) (by assumption) ?r24; (case h24 => ((simp only [g1, g2, g3]); rfl)); (case q24 => exact fun _ _ _ h => h); (case w24 => rfl); (case y24 => (intro w' hSw; (try dsimp only at hSw); go_simp; (try with_reducible rfl))); (try simp only [Act.put, s1, s2, s3]))
                refine wpAnyH_done (by kernel_rfl) ?_ _
                go_wp2_with fail
                go_roundw
                case rel => exact ⟨i + 1, by omega, by go_num, by rw [HSN.out], zk.trans hHd.2⟩
                case measure => simp [intOf]; omega
            · obtain rfl : i = G.length := by omega
              have jg : decide ((G.length : Int) < (G.length : Int)) = false := decide_eq_false (by omega)
              have hd : decide ((q : Int) ∈ G.take G.length) = true := by rw [List.take_length]; exact decide_eq_true HIN.out
              rw [hd]
              clear hd
              go_wp2_with fail
              go_roundw
              case rel => exact ⟨j + 1, by omega, by go_num, yk3.trans zk⟩
              case measure => simp [intOf]; omega
        · obtain rfl : j = M.length := by omega
          have jj : decide ((M.length : Int) < (M.length : Int)) = false := decide_eq_false (by omega)
          go_wp2_with fail
          go_roundw
          case rel => exact ⟨k + 1, by omega, by go_num, xk2.trans yk⟩
          case measure => simp [intOf]; omega
    · obtain rfl : k = cs.length := by omega
      have ji : decide ((cs.length : Int) < (cs.length : Int)) = false := decide_eq_false (by omega)
      go_wp2_with fail
      go_loopw [14] (fun v14 wr' => ∃ k : Nat, k ≤ L.length ∧ v14 = .int .i64 (k : Int) ∧ Kp w1 wr') (fun v14 _ => L.length - (intOf v14).toNat)
      case atStart => exact ⟨0, Nat.zero_le _, rfl, (by (repeat (first | with_reducible assumption | with_reducible exact Kp.refl _ | with_reducible refine Kp.drew ?_ | with_reducible refine Kp.drewN ?_ _ | with_reducible refine Kp.alloc ?_ _ | ((with_reducible refine Kp.setCell ?_ ?_ _); rotate_left; (focus (first | omega | (simp; done) | (simp; omega)))) | with_reducible refine Kp.trans ?_ (by assumption))))⟩
      case round =>
        obtain ⟨k, hk2, rfl, yk⟩ := hrel
        by_cases hlt2 : k < L.length
        · obtain ⟨x, hx⟩ : ∃ x, L[k]? = some x := ⟨L[k], List.getElem?_eq_getElem hlt2⟩
          have hxm := List.mem_of_getElem? hx
          have gx := HG.out x hxm
          obtain ⟨_, hxf, hxe⟩ := HX.out.each x hxm
          have hrise := grpF_rise (pagesL l cs P) x.n
          rw [← hxe] at hrise
          obtain ⟨g4, o4, rfl, hg4, r4⟩ := entsOfSl HS.out (by omega)
          obtain ⟨xn, ⟨xa, xl, xc, xs⟩⟩ := x
          obtain rfl : xl = xs.length := gx.len
          simp only at hrise hxe hxf
          have hx0 : 0 < xs.length := List.length_pos_iff.2 (by rw [hxe]; exact hxf)
          have hxc := gx.s.2.1
          have hxmx := gx.s.2.2.1
          unfold maxLen at hxmx
          simp only at hxc hxmx
          have GS := Lib.hid gx.s
          have HRS := Lib.hid hrise
          have d0 := (r4.kp yk hg4) k _ hx 0 _ rfl
          have d1 := (r4.kp yk hg4) k _ hx 1 _ rfl
          simp only [Nat.add_zero] at d0
          have ji2 : decide ((k : Int) < (L.length : Int)) = true := decide_eq_true (by omega)
          have jx1 : decide ((xs.length : Int) = 0) = false := decide_eq_false (by omega)
          have jx2 : ((xs.length : Int) == 0) = false := beq_eq_false_iff_ne.2 (by omega)
          have hg4' := Nat.lt_of_lt_of_le hg4 yk.size
          have RD : Hid (∀ w', Kp w1 w' → w'.cell? ⟨g4, o4 + k * 2 + 1, none⟩ = some (.slice xa xs.length xc)) := Lib.hid fun w' kk => (r4.kp kk hg4) k _ hx 1 _ rfl
          clear gx hrise hxe hxf
          by_cases hk0 : k = 0
          · have j0 : decide (0 < (k : Int)) = false := decide_eq_false (by omega)
            have j0' : decide (0 < k) = false := decide_eq_false (by omega)
            clear r4 hx hxm hk0
            go_wp2_with fail
            (refine wp_region_held_drew (S := (fun w' => (∀ b o, b < wr.heap.size → w'.cell? ⟨b, o, none⟩ = wr.cell? ⟨b, o, none⟩) ∧ Kp wr w')) (by kernel_rfl) ?_ (fun hHd => ?_); (focus ((try dsimp only); (first | with_reducible assumption | with_reducible exact held_start _ | with_reducible exact held_next (by assumption) (by assumption) | with_reducible exact held_alloc (by assumption) _ | with_reducible exact held_drew (by assumption) | ((with_reducible refine held_kp ?_); (repeat (first | with_reducible assumption | with_reducible exact Kp.refl _ | with_reducible refine Kp.drew ?_ | with_reducible refine Kp.drewN ?_ _ | with_reducible refine Kp.alloc ?_ _ | ((with_reducible refine Kp.setCell ?_ ?_ _); rotate_left; (focus (first | omega | (simp; done) | (simp; omega)))) | with_reducible refine Kp.trans ?_ (by assumption))))))))
            (refine takeH (i := 0) (oi := ?o25) (v := ?v25) ?h25 (by kernel_rfl) ?q25 (Or.inl ⟨?w25, ?y25⟩) (by assumption) ?r25; (case h25 => ((simp only [g1, g3]); rfl)); (case q25 => exact fun _ _ _ h => h); (case w25 => rfl); (case y25 => (intro w' hSw; (try dsimp only at hSw); go_simp; (try with_reducible rfl))); (try simp only [Act.put, s1, s2, s3]))
            (refine takeH (i := 1) (oi := ?o26) (v := ?v26) ?h26 (by kernel_rfl) ?q26 (Or.inl ⟨?w26, ?y26⟩) (by assumption) ?r26; (case h26 => ((simp only [g1, g2, g3]); rfl)); (case q26 => exact fun _ _ _ h => h); (case w26 => rfl); (case y26 => (intro w' hSw; (try dsimp only at hSw); go_simp; (try with_reducible rfl))); (try simp only [Act.put, s1, s2, s3]))
            (refine takeH (i := 2) (oi := ?o27) (v := ?v27) ?h27 (by kernel_rfl) ?q27 (Or.inl ⟨?w27, ?y27⟩) (by assumption) ?r27; (case h27 => ((simp only [g1, g2, g3]); rfl)); (case q27 => exact fun _ _ _ h => h); (case w27 => rfl); (case y27 => (intro w' hSw; (try dsimp only at hSw); go_simp; (try with_reducible rfl))); (try simp only [Act.put, s1, s2, s3]))
            (refine takeH (i := 3) (oi := ?o28) (v := undef) ?h28 (by kernel_rfl) ?q28 (Or.inr ⟨?w28, rfl⟩) (by assumption) ?r28; (case h28 => ((simp only [g1, g2, g3]); rfl)); (case q28 => exact fun _ _ _ h => h); (case w28 => rfl); (try simp only [Act.put, s1, s2, s3]))
            (refine takeH (i := 4) (oi := ?o29) (v := undef) ?h29 (by kernel_rfl) ?q29 (Or.inr ⟨?w29, rfl⟩) (by assumption) ?r29; (case h29 => ((simp only [g1, g2, g3]); rfl)); (case q29 => exact fun _ _ _ h => h); (case w29 => rfl); (try simp only [Act.put, s1, s2, s3]))
            (refine takeH (i := 5) (oi := ?o30) (v := undef) ?h30 (by kernel_rfl) ?q30 (Or.inr ⟨?w30, rfl⟩) (by assumption) ?r30; (case h30 => ((simp only [g1, g2, g3]); rfl)); (case q30 => exact fun _ _ _ h => h); (case w30 => rfl); (try simp only [Act.put, s1, s2, s3]))
            (refine takeH (i := 6) (oi := ?o31) (v := undef) ?h31 (by kernel_rfl) ?q31 (Or.inr ⟨?w31, rfl⟩) (by assumption) ?r31; (case h31 => ((simp only [g1, g2, g3]); rfl)); (case q31 => exact fun _ _ _ h => h); (case w31 => rfl); (try simp only [Act.put, s1, s2, s3]))
            (refine takeH (i := 7) (oi := ?o32) (v := undef) ?h32 (by kernel_rfl) ?q32 (Or.inr ⟨?w32, rfl⟩) (by assumption) ?r32; (case h32 => ((simp only [g1, g2, g3]); rfl)); (case q32 => exact fun _ _ _ h => h); (case w32 => rfl); (try simp only [Act.put, s1, s2, s3]))
            (refine takeH (i := 8) (oi := ?o33) (v := undef) ?h33 (by kernel_rfl) ?q33 (Or.inr ⟨?w33, rfl⟩) (by assumption) ?r33; (case h33 => ((simp only [g1, g2, g3]); rfl)); (case q33 => exact fun _ _ _ h => h); (case w33 => rfl); (try simp only [Act.put, s1, s2, s3]))
            (refine takeH (i := 9) (oi := ?o34) (v := undef) ?h34 (by kernel_rfl) ?q34 (Or.inr ⟨?w34, rfl⟩) (by assumption) ?r34; (case h34 => ((simp only [g1, g2, g3]); rfl)); (case q34 => exact fun _ _ _ h => h); (case w34 => rfl); (try simp only [Act.put, s1, s2, s3]))
            (refine takeH (i := 10) (oi := ?o35) (v := undef) ?h35 (by kernel_rfl) ?q35 (Or.inr ⟨?w35, rfl⟩) (by assumption) ?r35; (case h35 => ((simp only [g1, g2, g3]); rfl)); (case q35 => exact fun _ _ _ h => h); (case w35 => rfl); (try simp only [Act.put, s1, s2, s3]))
            (refine takeH (i := 11) (oi := ?o36) (v := undef) ?h36 (by kernel_rfl) ?q36 (Or.inr ⟨?w36, rfl⟩) (by assumption) ?r36; (case h36 => ((simp only [g1, g2, g3]); rfl)); (case q36 => exact fun _ _ _ h => h); (case w36 => rfl); (try simp only [Act.put, s1, s2, s3]))
            (refine takeH (i := 12) (oi := ?o37) (v := undef) ?h37 (by kernel_rfl) ?q37 (Or.inr ⟨?w37, rfl⟩) (by assumption) ?r37; (case h37 => ((simp only [g1, g2, g3]); rfl)); (case q37 => exact fun _ _ _ h => h); (case w37 => rfl); (try simp only [Act.put, s1, s2, s3]))
            (refine takeH (i := 13) (oi := ?o38) (v := undef) ?h38 (by kernel_rfl) ?q38 (Or.inr ⟨?w38, rfl⟩) (by assumption) ?r38; (case h38 => ((simp only [g1, g2, g3]); rfl)); (case q38 => exact fun _ _ _ h => h); (case w38 => rfl); (try simp only [Act.put, s1, s2, s3]))
            (refine takeH (i := 14) (oi := ?o39) (v := undef) ?h39 (by kernel_rfl) ?q39 (Or.inr ⟨?w39, rfl⟩) (by assumption) ?r39; (case h39 => ((simp only [g1, g2, g3]); rfl)); (case q39 => exact fun _ _ _ h => h); (case w39 => rfl); (try simp only [Act.put, s1, s2, s3]))
            (refine takeH (i := 15) (oi := ?o40) (v := ?v40) ?h40 (by kernel_rfl) ?q40 (Or.inl ⟨?w40, ?y40⟩) (by assumption) ?r40; (case h40 => ((simp only [g1, g2, g3]); rfl)); (case q40 => exact fun _ _ _ h => h); (case w40 => rfl); (case y40 => (intro w' hSw; (try dsimp only at hSw); go_simp; (try with_reducible rfl))); (try simp only [Act.put, s1, s2, s3]))
            (refine takeH (i := 16) (oi := ?o41) (v := ?v41) ?h41 (by kernel_rfl) ?q41 (Or.inl ⟨?w41, ?y41⟩) (by assumption) ?r41; (case h41 => ((simp only [g1, g2, g3]); rfl)); (case q41 => exact fun _ _ _ h => h); (case w41 => rfl); (case y41 => (intro w' hSw; (try dsimp only at hSw); go_simp; (try with_reducible rfl))); (try simp only [Act.put, s1, s2, s3]))
            (refine takeH (i := 17) (oi := ?o42) (v := ?v42) ?h42 (by kernel_rfl) ?q42 (Or.inl ⟨?w42, ?y42⟩) (by assumption) ?r42; (case h42 => ((simp only [g1, g2, g3]); rfl)); (case q42 => exact fun _ _ _ h => h); (case w42 => rfl); (case y42 => (intro w' hSw; (try dsimp only at hSw); go_simp; (try with_reducible rfl))); (try simp only [Act.put, s1, s2, s3]))
            (refine takeH (i := 18) (oi := ?o43) (v := ?v43) ?h43 (by kernel_rfl) ?q43 (Or.inl ⟨?w43, ?y43⟩) (by assumption) ?r43; (case h43 => ((simp only [g1, g2, g3]); rfl)); (case q43 => exact fun _ _ _ h => h); (case w43 => rfl); (case y43 => (intro w' hSw; (try dsimp only at hSw); go_simp; (try with_reducible rfl))); (try simp only [Act.put, s1, s2, s3]))
            (refine takeH (i := 19) (oi := ?o44) (v := ?v44) ?h44 (by kernel_rfl) ?q44 (Or.inl ⟨?w44, ?y44⟩) (by assumption) ?r44; (case h44 => ((simp only [g1, g2, g3]); rfl)); (case q44 => exact fun _ _ _ h => h); (case w44 => rfl); (case y44 => (intro w' hSw; (try dsimp only at hSw); go_simp; (try with_reducible rfl))); (try simp only [Act.put, s1, s2, s3]))
            (refine takeH (i := 20) (oi := ?o45) (v := ?v45) ?h45 (by kernel_rfl) ?q45 (Or.inl ⟨?w45, ?y45⟩) (by assumption) ?r45; (case h45 => ((simp only [g1, g2, g3]); rfl)); (case q45 => exact fun _ _ _ h => h); (case w45 => rfl); (case y45 => (intro w' hSw; (try dsimp only at hSw); go_simp; (try with_reducible rfl))); (try simp only [Act.put, s1, s2, s3]))
            (refine takeH (i := 21) (oi := ?o46) (v := ?v46) ?h46 (by kernel_rfl) ?q46 (Or.inl ⟨?w46, ?y46⟩) (by assumption) ?r46; (case h46 => ((simp only [g1, g2, g3]); rfl)); (case q46 => exact fun _ _ _ h => h); (case w46 => rfl); (case y46 => (intro w' hSw; (try dsimp only at hSw); go_simp; (try with_reducible rfl))); (try simp only [Act.put, s1, s2, s3]))
            (refine takeH (i := 22) (oi := ?o47) (v := ?v47) ?h47 (by kernel_rfl) ?q47 (Or.inl ⟨?w47, ?y47⟩) (by assumption) ?r47; (case h47 => ((simp only [g1, g2, g3]); rfl)); (case q47 => exact fun _ _ _ h => h); (case w47 => rfl); (case y47 => (intro w' hSw; (try dsimp only at hSw); go_simp; (try with_reducible rfl))); (try simp only [Act.put, s1, s2, s3]))
            (refine takeH (i := 23) (oi := ?o48) (v := ?v48) ?h48 (by kernel_rfl) ?q48 (Or.inl ⟨?w48, ?y48⟩) (by assumption) ?r48; (case h48 => ((simp only [g1, g2, g3]); rfl)); (case q48 => exact fun _ _ _ h => h); (case w48 => rfl); (case y48 => (intro w' hSw; (try dsimp only at hSw); go_simp; (try with_reducible rfl))); (try simp only [Act.put, s1, s2, s3]))
            (refine takeH (i := 24) (oi := ?o49) (v := ?v49) ?h49 (by kernel_rfl) ?q49 (Or.inl ⟨?w49, ?y49⟩) (by assumption) ?r49; (case h49 => ((simp only [g1, g2, g3]); rfl)); (case q49 => exact fun _ _ _ h => h); (case w49 => rfl); (case y49 => (intro w' hSw; (try dsimp only at hSw); go_simp; (try with_reducible rfl))); (try simp only [Act.put, s1, s2, s3]))
            refine wpAnyH_done (by kernel_rfl) ?_ _
            have yk3 := yk.trans hHd.2
            clear hHd d0 d1
            go_wp2_with fail
            go_loopw [15] (fun v15 wr' => ∃ i : Nat, 1 ≤ i ∧ i ≤ xs.length ∧ v15 = .int .i64 (i : Int) ∧ Kp w1 wr') (fun v15 _ => xs.length - (intOf v15).toNat)
            case atStart => exact ⟨1, by omega, by omega, rfl, (by (repeat (first | with_reducible assumption | with_reducible exact Kp.refl _ | with_reducible refine Kp.drew ?_ | with_reducible refine Kp.drewN ?_ _ | with_reducible refine Kp.alloc ?_ _ | ((with_reducible refine Kp.setCell ?_ ?_ _); rotate_left; (focus (first | omega | (simp; done) | (simp; omega)))) | with_reducible refine Kp.trans ?_ (by assumption))))⟩
            case round =>
              obtain ⟨i, hi1, hi2, rfl, zk⟩ := hrel
              have d2 := RD.out _ zk
              by_cases hlt5 : i < xs.length
              · obtain ⟨i', hi'⟩ : ∃ i', i = i' + 1 := ⟨i - 1, by omega⟩
                obtain ⟨u, hu⟩ : ∃ x, xs[i]? = some x := ⟨xs[i], List.getElem?_eq_getElem hlt5⟩
                obtain ⟨v, hv⟩ : ∃ x, xs[i']? = some x := ⟨xs[i']'(by omega), List.getElem?_eq_getElem _⟩
                have hvu : v < u := by
                  have := List.pairwise_iff_getElem.1 HRS.out i' i (by omega) hlt5 (by omega)
                  rw [(List.getElem?_eq_some_iff.1 hu).2, (List.getElem?_eq_some_iff.1 hv).2] at this
                  exact this
                obtain ⟨gb, ob, e7, hgb, r2⟩ := entsOfSl (GS.out.kp zk) hx0
                subst e7
                have d3 := r2 i _ hu 0 _ rfl
                have d4 := r2 i' _ hv 0 _ rfl
                simp only [Nat.add_zero, Nat.mul_one] at d3 d4
                have jg : decide ((i : Int) < (xs.length : Int)) = true := decide_eq_true (by omega)
                have juv : decide (u ≤ v) = false := decide_eq_false (by omega)
                have ei : IntKind.i64.wrap ((i : Int) - 1) = (i' : Int) := by rw [IntKind.wrap_i64]; omega
                have hii : i' < xs.length := by omega
                have hg4z := Nat.lt_of_lt_of_le hg4 zk.size
                clear r2 hu hv hvu hi' hg4'
                go_wp2_with fail
                (refine wp_region_held_drew (S := (fun w' => (∀ b o, b < wr.heap.size → w'.cell? ⟨b, o, none⟩ = wr.cell? ⟨b, o, none⟩) ∧ Kp wr w')) (by kernel_rfl) ?_ (fun hHd => ?_); (focus ((try dsimp only); (first | with_reducible assumption | with_reducible exact held_start _ | with_reducible exact held_next (by assumption) (by assumption) | with_reducible exact held_alloc (by assumption) _ | with_reducible exact held_drew (by assumption) | ((with_reducible refine held_kp ?_); (repeat (first | with_reducible assumption | with_reducible exact Kp.refl _ | with_reducible refine Kp.drew ?_ | with_reducible refine Kp.drewN ?_ _ | with_reducible refine Kp.alloc ?_ _ | ((with_reducible refine Kp.setCell ?_ ?_ _); rotate_left; (focus (first | omega | (simp; done) | (simp; omega)))) | with_reducible refine Kp.trans ?_ (by assumption))))))))
                (refine takeH (i := 0) (oi := ?o50) (v := ?v50) ?h50 (by kernel_rfl) ?q50 (Or.inl ⟨?w50, ?y50⟩) (by assumption) ?r50; (case h50 => ((simp only [g1, g3]); rfl)); (case q50 => exact fun _ _ _ h => h); (case w50 => rfl); (case y50 => (intro w' hSw; (try dsimp only at hSw); go_simp; (try with_reducible rfl))); (try simp only [Act.put, s1, s2, s3]))
                (refine takeH (i := 1) (oi := ?o51) (v := ?v51) ?h51 (by kernel_rfl) ?q51 (Or.inl ⟨?w51, ?y51⟩) (by assumption) ?r51; (case h51 => ((simp only [g1, g2, g3]); rfl)); (case q51 => exact fun _ _ _ h => h); (case w51 => rfl); (case y51 => (intro w' hSw; (try dsimp only at hSw); go_simp; (try with_reducible rfl))); (try simp only [Act.put, s1, s2, s3]))
                (refine takeH (i := 2) (oi := ?o52) (v := ?v52) ?h52 (by kernel_rfl) ?q52 (Or.inl ⟨?w52, ?y52⟩) (by assumption) ?r52; (case h52 => ((simp only [g1, g2, g3]); rfl)); (case q52 => exact fun _ _ _ h => h); (case w52 => rfl); (case y52 => (intro w' hSw; (try dsimp only at hSw); go_simp; (try with_reducible rfl))); (try simp only [Act.put, s1, s2, s3]))
                (refine takeH (i := 3) (oi := ?o53) (v := ?v53) ?h53 (by kernel_rfl) ?q53 (Or.inl ⟨?w53, ?y53⟩) (by assumption) ?r53; (case h53 => ((simp only [g1, g2, g3]); rfl)); (case q53 => exact fun _ _ _ h => h); (case w53 => rfl); (case y53 => (intro w' hSw; (try dsimp only at hSw); go_simp; (try with_reducible rfl))); (try simp only [Act.put, s1, s2, s3]))
                (refine takeH (i := 4) (oi := ?o54) (v := ?v54) ?h54 (by kernel_rfl) ?q54 (Or.inl ⟨?w54, ?y54⟩) (by assumption) ?r54; (case h54 => ((simp only [g1, g2, g3]); rfl)); (case q54 => exact fun _ _ _ h => h); (case w54 => rfl); (case y54 => (intro w' hSw; (try dsimp only at hSw); go_simp; (try with_reducible rfl))); (try simp only [Act.put, s1, s2, s3]))
                (refine takeH (i := 5) (oi := ?o55) (v := ?v55) ?h55 (by kernel_rfl) ?q55 (Or.inl ⟨?w55, ?y55⟩) (by assumption) ?r55; (case h55 => ((simp only [g1, g2, g3]); rfl)); (case q55 => exact fun _ _ _ h => h); (case w55 => rfl); (case y55 => (intro w' hSw; (try dsimp only at hSw); go_simp; (try with_reducible rfl))); (try simp only [Act.put, s1, s2, s3]))
                (refine takeH (i := 6) (oi := ?o56) (v := ?v56) ?h56 (by kernel_rfl) ?q56 (Or.inl ⟨?w56, ?y56⟩) (by assumption) ?r56; (case h56 => ((simp only [g1, g2, g3]); rfl)); (case q56 => exact fun _ _ _ h => h); (case w56 => rfl); (case y56 => (intro w' hSw; (try dsimp only at hSw); go_simp; (try with_reducible rfl))); (try simp only [Act.put, s1, s2, s3]))
                (refine takeH (i := 7) (oi := ?o57) (v := ?v57) ?h57 (by kernel_rfl) ?q57 (Or.inl ⟨?w57, ?y57⟩) (by assumption) ?r57; (case h57 => ((simp only [g1, g2, g3]); rfl)); (case q57 => exact fun _ _ _ h => h); (case w57 => rfl); (case y57 => (intro w' hSw; (try dsimp only at hSw); go_simp; (try with_reducible rfl))); (try simp only [Act.put, s1, s2, s3]))
                (refine takeH (i := 8) (oi := ?o58) (v := ?v58) ?h58 (by kernel_rfl) ?q58 (Or.inl ⟨?w58, ?y58⟩) (by assumption) ?r58; (case h58 => ((simp only [g1, g2, g3]); rfl)); (case q58 => exact fun _ _ _ h => h); (case w58 => rfl); (case y58 => (intro w' hSw; (try dsimp only at hSw); go_simp; (try with_reducible rfl))); (try simp only [Act.put, s1, s2, s3]))
                (refine takeH (i := 9) (oi := ?o59) (v := ?v59) ?h59 (by kernel_rfl) ?q59 (Or.inl ⟨?w59, ?y59⟩) (by assumption) ?r59; (case h59 => ((simp only [g1, g2, g3]); rfl)); (case q59 => exact fun _ _ _ h => h); (case w59 => rfl); (case y59 => (intro w' hSw; (try dsimp only at hSw); go_simp; (try with_reducible rfl))); (try simp only [Act.put, s1, s2, s3]))
                (refine takeH (i := 10) (oi := ?o60) (v := ?v60) ?h60 (by kernel_rfl) ?q60 (Or.inl ⟨?w60, ?y60⟩) (by assumption) ?r60; (case h60 => ((simp only [g1, g2, g3]); rfl)); (case q60 => exact fun _ _ _ h => h); (case w60 => rfl); (case y60 => (intro w' hSw; (try dsimp only at hSw); go_simp; (try with_reducible rfl))); (try simp only [Act.put, s1, s2, s3]))
                (refine takeH (i := 11) (oi := ?o61) (v := ?v61) ?h61 (by kernel_rfl) ?q61 (Or.inl ⟨?w61, ?y61⟩) (by assumption) ?r61; (case h61 => ((simp only [g1, g2, g3]); rfl)); (case q61 => exact fun _ _ _ h => h); (case w61 => rfl); (case y61 => (intro w' hSw; (try dsimp only at hSw); go_simp; (try with_reducible rfl))); (try simp only [Act.put, s1, s2, s3]))
                (refine takeH (i := 12) (oi := ?o62) (v := ?v62) ?h62 (by kernel_rfl) ?q62 (Or.inl ⟨?w62, ?y62⟩) (by assumption) ?r62; (case h62 => ((simp only [g1, g2, g3]); rfl)); (case q62 => exact fun _ _ _ h => h); (case w62 => rfl); (case y62 => (intro w' hSw; (try dsimp only at hSw); go_simp; (try with_reducible rfl))); (try simp only [Act.put, s1, s2, s3]))
                (refine takeH (i := 13) (oi := ?o63) (v := ?v63) ?h63 (by kernel_rfl) ?q63 (Or.inl ⟨?w63, ?y63⟩) (by assumption) ?r63; (case h63 => ((simp only [g1, g2, g3]); rfl)); (case q63 => exact fun _ _ _ h => h); (case w63 => rfl); (case y63 => (intro w' hSw; (try dsimp only at hSw); go_simp; (try with_reducible rfl))); (try simp only [Act.put, s1, s2, s3]))
                (refine takeH (i := 14) (oi := ?o64) (v := ?v64) ?h64 (by kernel_rfl) ?q64 (Or.inl ⟨?w64, ?y64⟩) (by assumption) ?r64; (case h64 => ((simp only [g1, g2, g3]); rfl)); (case q64 => exact fun _ _ _ h => h); (case w64 => rfl); (case y64 => (intro w' hSw; (try dsimp only at hSw); go_simp; (try with_reducible rfl))); (try simp only [Act.put, s1, s2, s3]))
                (refine takeH (i := 15) (oi := ?o65) (v := ?v65) ?h65 (by kernel_rfl) ?q65 (Or.inl ⟨?w65, ?y65⟩) (by assumption) ?r65; (case h65 => ((simp only [g1, g2, g3]); rfl)); (case q65 => exact fun _ _ _ h => h); (case w65 => rfl); (case y65 => (intro w' hSw; (try dsimp only at hSw); go_simp; (try with_reducible rfl))); (try simp only [Act.put, s1, s2, s3]))
                (refine takeH (i := 16) (oi := ?o66) (v := ?v66) ?h66 (by kernel_rfl) ?q66 (Or.inl ⟨?w66, ?y66⟩) (by assumption) ?r66; (case h66 => ((simp only [g1, g2, g3]); rfl)); (case q66 => exact fun _ _ _ h => h); (case w66 => rfl); (case y66 => (intro w' hSw; (try dsimp only at hSw); go_simp; (try with_reducible rfl))); (try simp only [Act.put, s1, s2, s3]))
                (refine takeH (i := 17) (oi := ?o67) (v := ?v67) ?h67 (by kernel_rfl) ?q67 (Or.inl ⟨?w67, ?y67⟩) (by assumption) ?r67; (case h67 => ((simp only [g1, g2, g3]); rfl)); (case q67 => exact fun _ _ _ h => h); (case w67 => rfl); (case y67 => (intro w' hSw; (try dsimp only at hSw); go_simp; (try with_reducible rfl))); (try simp only [Act.put, s1, s2, s3]))
                refine wpAnyH_done (by kernel_rfl) ?_ _
                go_wp2_with fail
                go_roundw
                case rel => exact ⟨i + 1, by omega, by omega, by go_num, zk.trans hHd.2⟩
                case measure => simp [intOf]; omega
              · obtain rfl : i = xs.length := by omega
                have jg : decide ((xs.length : Int) < (xs.length : Int)) = false := decide_eq_false (by omega)
                go_wp2_with fail
                go_roundw
                case rel => exact ⟨k + 1, by omega, by go_num, zk⟩
                case measure => simp [intOf]; omega
          · obtain ⟨k', hk'⟩ : ∃ k', k = k' + 1 := ⟨k - 1, by omega⟩
            obtain ⟨y, hy⟩ : ∃ y, L[k']? = some y := ⟨L[k']'(by omega), List.getElem?_eq_getElem _⟩
            obtain ⟨yn, ys⟩ := y
            have hyx : yn < xn := by
              have := List.pairwise_iff_getElem.1 HX.out.rise k' k (by omega) hlt2 (by omega)
              rw [(List.getElem?_eq_some_iff.1 hy).2, (List.getElem?_eq_some_iff.1 hx).2] at this
              exact this
            have f0 := (r4.kp yk hg4) k' _ hy 0 _ rfl
            simp only [Nat.add_zero] at f0
            have j0 : decide (0 < (k : Int)) = true := decide_eq_true (by omega)
            have j0' : decide (0 < k) = true := decide_eq_true (by omega)
            have jyx : decide (xn ≤ yn) = false := decide_eq_false (by omega)
            have ek : IntKind.i64.wrap ((k : Int) - 1) = (k' : Int) := by rw [IntKind.wrap_i64]; omega
            have hkk : k' < L.length := by omega
            clear r4 hx hxm hy hk' hyx hk0
            go_wp2_with fail
            (refine wp_region_held_drew (S := (fun w' => (∀ b o, b < wr.heap.size → w'.cell? ⟨b, o, none⟩ = wr.cell? ⟨b, o, none⟩) ∧ Kp wr w')) (by kernel_rfl) ?_ (fun hHd => ?_); (focus ((try dsimp only); (first | with_reducible assumption | with_reducible exact held_start _ | with_reducible exact held_next (by assumption) (by assumption) | with_reducible exact held_alloc (by assumption) _ | with_reducible exact held_drew (by assumption) | ((with_reducible refine held_kp ?_); (repeat (first | with_reducible assumption | with_reducible exact Kp.refl _ | with_reducible refine Kp.drew ?_ | with_reducible refine Kp.drewN ?_ _ | with_reducible refine Kp.alloc ?_ _ | ((with_reducible refine Kp.setCell ?_ ?_ _); rotate_left; (focus (first | omega | (simp; done) | (simp; omega)))) | with_reducible refine Kp.trans ?_ (by assumption))))))))
            (refine takeH (i := 0) (oi := ?o68) (v := ?v68) ?h68 (by kernel_rfl) ?q68 (Or.inl ⟨?w68, ?y68⟩) (by assumption) ?r68; (case h68 => ((simp only [g1, g3]); rfl)); (case q68 => exact fun _ _ _ h => h); (case w68 => rfl); (case y68 => (intro w' hSw; (try dsimp only at hSw); go_simp; (try with_reducible rfl))); (try simp only [Act.put, s1, s2, s3]))
            (refine takeH (i := 1) (oi := ?o69) (v := ?v69) ?h69 (by kernel_rfl) ?q69 (Or.inl ⟨?w69, ?y69⟩) (by assumption) ?r69; (case h69 => ((simp only [g1, g2, g3]); rfl)); (case q69 => exact fun _ _ _ h => h); (case w69 => rfl); (case y69 => (intro w' hSw; (try dsimp only at hSw); go_simp; (try with_reducible rfl))); (try simp only [Act.put, s1, s2, s3]))
            (refine takeH (i := 2) (oi := ?o70) (v := ?v70) ?h70 (by kernel_rfl) ?q70 (Or.inl ⟨?w70, ?y70⟩) (by assumption) ?r70; (case h70 => ((simp only [g1, g2, g3]); rfl)); (case q70 => exact fun _ _ _ h => h); (case w70 => rfl); (case y70 => (intro w' hSw; (try dsimp only at hSw); go_simp; (try with_reducible rfl))); (try simp only [Act.put, s1, s2, s3]))
            (refine takeH (i := 3) (oi := ?o71) (v := ?v71) ?h71 (by kernel_rfl) ?q71 (Or.inl ⟨?w71, ?y71⟩) (by assumption) ?r71; (case h71 => ((simp only [g1, g2, g3]); rfl)); (case q71 => exact fun _ _ _ h => h); (case w71 => rfl); (case y71 => (intro w' hSw; (try dsimp only at hSw); go_simp; (try with_reducible rfl))); (try simp only [Act.put, s1, s2, s3]))
            (refine takeH (i := 4) (oi := ?o72) (v := ?v72) ?h72 (by kernel_rfl) ?q72 (Or.inl ⟨?w72, ?y72⟩) (by assumption) ?r72; (case h72 => ((simp only [g1, g2, g3]); rfl)); (case q72 => exact fun _ _ _ h => h); (case w72 => rfl); (case y72 => (intro w' hSw; (try dsimp only at hSw); go_simp; (try with_reducible rfl))); (try simp only [Act.put, s1, s2, s3]))
            (refine takeH (i := 5) (oi := ?o73) (v := ?v73) ?h73 (by kernel_rfl) ?q73 (Or.inl ⟨?w73, ?y73⟩) (by assumption) ?r73; (case h73 => ((simp only [g1, g2, g3]); rfl)); (case q73 => exact fun _ _ _ h => h); (case w73 => rfl); (case y73 => (intro w' hSw; (try dsimp only at hSw); go_simp; (try with_reducible rfl))); (try simp only [Act.put, s1, s2, s3]))
            (refine takeH (i := 6) (oi := ?o74) (v := ?v74) ?h74 (by kernel_rfl) ?q74 (Or.inl ⟨?w74, ?y74⟩) (by assumption) ?r74; (case h74 => ((simp only [g1, g2, g3]); rfl)); (case q74 => exact fun _ _ _ h => h); (case w74 => rfl); (case y74 => (intro w' hSw; (try dsimp only at hSw); go_simp; (try with_reducible rfl))); (try simp only [Act.put, s1, s2, s3]))
            (refine takeH (i := 7) (oi := ?o75) (v := ?v75) ?h75 (by kernel_rfl) ?q75 (Or.inl ⟨?w75, ?y75⟩) (by assumption) ?r75; (case h75 => ((simp only [g1, g2, g3]); rfl)); (case q75 => exact fun _ _ _ h => h); (case w75 => rfl); (case y75 => (intro w' hSw; (try dsimp only at hSw); go_simp; (try with_reducible rfl))); (try simp only [Act.put, s1, s2, s3]))
            (refine takeH (i := 8) (oi := ?o76) (v := ?v76) ?h76 (by kernel_rfl) ?q76 (Or.inl ⟨?w76, ?y76⟩) (by assumption) ?r76; (case h76 => ((simp only [g1, g2, g3]); rfl)); (case q76 => exact fun _ _ _ h => h); (case w76 => rfl); (case y76 => (intro w' hSw; (try dsimp only at hSw); go_simp; (try with_reducible rfl))); (try simp only [Act.put, s1, s2, s3]))
            (refine takeH (i := 9) (oi := ?o77) (v := ?v77) ?h77 (by kernel_rfl) ?q77 (Or.inl ⟨?w77, ?y77⟩) (by assumption) ?r77; (case h77 => ((simp only [g1, g2, g3]); rfl)); (case q77 => exact fun _ _ _ h => h); (case w77 => rfl); (case y77 => (intro w' hSw; (try dsimp only at hSw); go_simp; (try with_reducible rfl))); (try simp only [Act.put, s1, s2, s3]))
            (refine takeH (i := 10) (oi := ?o78) (v := ?v78) ?h78 (by kernel_rfl) ?q78 (Or.inl ⟨?w78, ?y78⟩) (by assumption) ?r78; (case h78 => ((simp only [g1, g2, g3]); rfl)); (case q78 => exact fun _ _ _ h => h); (case w78 => rfl); (case y78 => (intro w' hSw; (try dsimp only at hSw); go_simp; (try with_reducible rfl))); (try simp only [Act.put, s1, s2, s3]))
            (refine takeH (i := 11) (oi := ?o79) (v := ?v79) ?h79 (by kernel_rfl) ?q79 (Or.inl ⟨?w79, ?y79⟩) (by assumption) ?r79; (case h79 => ((simp only [g1, g2, g3]); rfl)); (case q79 => exact fun _ _ _ h => h); (case w79 => rfl); (case y79 => (intro w' hSw; (try dsimp only at hSw); go_simp; (try with_reducible rfl))); (try simp only [Act.put, s1, s2, s3]))
            (refine takeH (i := 12) (oi := ?o80) (v := ?v80) ?h80 (by kernel_rfl) ?q80 (Or.inl ⟨?w80, ?y80⟩) (by assumption) ?r80; (case h80 => ((simp only [g1, g2, g3]); rfl)); (case q80 => exact fun _ _ _ h => h); (case w80 => rfl); (case y80 => (intro w' hSw; (try dsimp only at hSw); go_simp; (try with_reducible rfl))); (try simp only [Act.put, s1, s2, s3]))
            (refine takeH (i := 13) (oi := ?o81) (v := ?v81) ?h81 (by kernel_rfl) ?q81 (Or.inl ⟨?w81, ?y81⟩) (by assumption) ?r81; (case h81 => ((simp only [g1, g2, g3]); rfl)); (case q81 => exact fun _ _ _ h => h); (case w81 => rfl); (case y81 => (intro w' hSw; (try dsimp only at hSw); go_simp; (try with_reducible rfl))); (try simp only [Act.put, s1, s2, s3]))
            (refine takeH (i := 14) (oi := ?o82) (v := ?v82) ?h82 (by kernel_rfl) ?q82 (Or.inl ⟨?w82, ?y82⟩) (by assumption) ?r82; (case h82 => ((simp only [g1, g2, g3]); rfl)); (case q82 => exact fun _ _ _ h => h); (case w82 => rfl); (case y82 => (intro w' hSw; (try dsimp only at hSw); go_simp; (try with_reducible rfl))); (try simp only [Act.put, s1, s2, s3]))
            (refine takeH (i := 15) (oi := ?o83) (v := ?v83) ?h83 (by kernel_rfl) ?q83 (Or.inl ⟨?w83, ?y83⟩) (by assumption) ?r83; (case h83 => ((simp only [g1, g2, g3]); rfl)); (case q83 => exact fun _ _ _ h => h); (case w83 => rfl); (case y83 => (intro w' hSw; (try dsimp only at hSw); go_simp; (try with_reducible rfl))); (try simp only [Act.put, s1, s2, s3]))
            (refine takeH (i := 16) (oi := ?o84) (v := ?v84) ?h84 (by kernel_rfl) ?q84 (Or.inl ⟨?w84, ?y84⟩) (by assumption) ?r84; (case h84 => ((simp only [g1, g2, g3]); rfl)); (case q84 => exact fun _ _ _ h => h); (case w84 => rfl); (case y84 => (intro w' hSw; (try dsimp only at hSw); go_simp; (try with_reducible rfl))); (try simp only [Act.put, s1, s2, s3]))
            (refine takeH (i := 17) (oi := ?o85) (v := ?v85) ?h85 (by kernel_rfl) ?q85 (Or.inl ⟨?w85, ?y85⟩) (by assumption) ?r85; (case h85 => ((simp only [g1, g2, g3]); rfl)); (case q85 => exact fun _ _ _ h => h); (case w85 => rfl); (case y85 => (intro w' hSw; (try dsimp only at hSw); go_simp; (try with_reducible rfl))); (try simp only [Act.put, s1, s2, s3]))
            (refine takeH (i := 18) (oi := ?o86) (v := ?v86) ?h86 (by kernel_rfl) ?q86 (Or.inl ⟨?w86, ?y86⟩) (by assumption) ?r86; (case h86 => ((simp only [g1, g2, g3]); rfl)); (case q86 => exact fun _ _ _ h => h); (case w86 => rfl); (case y86 => (intro w' hSw; (try dsimp only at hSw); go_simp; (try with_reducible rfl))); (try simp only [Act.put, s1, s2, s3]))
            (refine takeH (i := 19) (oi := ?o87) (v := ?v87) ?h87 (by kernel_rfl) ?q87 (Or.inl ⟨?w87, ?y87⟩) (by assumption) ?r87; (case h87 => ((simp only [g1, g2, g3]); rfl)); (case q87 => exact fun _ _ _ h => h); (case w87 => rfl); (case y87 => (intro w' hSw; (try dsimp only at hSw); go_simp; (try with_reducible rfl))); (try simp only [Act.put, s1, s2, s3]))
            (refine takeH (i := 20) (oi := ?o88) (v := ?v88) ?h88 (by kernel_rfl) ?q88 (Or.inl ⟨?w88, ?y88⟩) (by assumption) ?r88; (case h88 => ((simp only [g1, g2, g3]); rfl)); (case q88 => exact fun _ _ _ h => h); (case w88 => rfl); (case y88 => (intro w' hSw; (try dsimp only at hSw); go_simp; (try with_reducible rfl))); (try simp only [Act.put, s1, s2, s3]))
            (refine takeH (i := 21) (oi := ?o89) (v := ?v89) ?h89 (by kernel_rfl) ?q89 (Or.inl ⟨?w89, ?y89⟩) (by assumption) ?r89; (case h89 => ((simp only [g1, g2, g3]); rfl)); (case q89 => exact fun _ _ _ h => h); (case w89 => rfl); (case y89 => (intro w' hSw; (try dsimp only at hSw); go_simp; (try with_reducible rfl))); (try simp only [Act.put, s1, s2, s3]))
            (refine takeH (i := 22) (oi := ?o90) (v := ?v90) ?h90 (by kernel_rfl) ?q90 (Or.inl ⟨?w90, ?y90⟩) (by assumption) ?r90; (case h90 => ((simp only [g1, g2, g3]); rfl)); (case q90 => exact fun _ _ _ h => h); (case w90 => rfl); (case y90 => (intro w' hSw; (try dsimp only at hSw); go_simp; (try with_reducible rfl))); (try simp only [Act.put, s1, s2, s3]))
            (refine takeH (i := 23) (oi := ?o91) (v := ?v91) ?h91 (by kernel_rfl) ?q91 (Or.inl ⟨?w91, ?y91⟩) (by assumption) ?r91; (case h91 => ((simp only [g1, g2, g3]); rfl)); (case q91 => exact fun _ _ _ h => h); (case w91 => rfl); (case y91 => (intro w' hSw; (try dsimp only at hSw); go_simp; (try with_reducible rfl))); (try simp only [Act.put, s1, s2, s3]))
            (refine takeH (i := 24) (oi := ?o92) (v := ?v92) ?h92 (by kernel_rfl) ?q92 (Or.inl ⟨?w92, ?y92⟩) (by assumption) ?r92; (case h92 => ((simp only [g1, g2, g3]); rfl)); (case q92 => exact fun _ _ _ h => h); (case w92 => rfl); (case y92 => (intro w' hSw; (try dsimp only at hSw); go_simp; (try with_reducible rfl))); (try simp only [Act.put, s1, s2, s3]))
            refine wpAnyH_done (by kernel_rfl) ?_ _
            have yk3 := yk.trans hHd.2
            clear hHd d0 d1 f0 ek
            go_wp2_with fail
            go_loopw [15] (fun v15 wr' => ∃ i : Nat, 1 ≤ i ∧ i ≤ xs.length ∧ v15 = .int .i64 (i : Int) ∧ Kp w1 wr') (fun v15 _ => xs.length - (intOf v15).toNat)
            case atStart => exact ⟨1, by omega, by omega, rfl, (by (repeat (first | with_reducible assumption | with_reducible exact Kp.refl _ | with_reducible refine Kp.drew ?_ | with_reducible refine Kp.drewN ?_ _ | with_reducible refine Kp.alloc ?_ _ | ((with_reducible refine Kp.setCell ?_ ?_ _); rotate_left; (focus (first | omega | (simp; done) | (simp; omega)))) | with_reducible refine Kp.trans ?_ (by assumption))))⟩
            case round =>
              obtain ⟨i, hi1, hi2, rfl, zk⟩ := hrel
              have d2 := RD.out _ zk
              by_cases hlt5 : i < xs.length
              · obtain ⟨i', hi'⟩ : ∃ i', i = i' + 1 := ⟨i - 1, by omega⟩
                obtain ⟨u, hu⟩ : ∃ x, xs[i]? = some x := ⟨xs[i], List.getElem?_eq_getElem hlt5⟩
                obtain ⟨v, hv⟩ : ∃ x, xs[i']? = some x := ⟨xs[i']'(by omega), List.getElem?_eq_getElem _⟩
                have hvu : v < u := by
                  have := List.pairwise_iff_getElem.1 HRS.out i' i (by omega) hlt5 (by omega)
                  rw [(List.getElem?_eq_some_iff.1 hu).2, (List.getElem?_eq_some_iff.1 hv).2] at this
                  exact this
                obtain ⟨gb, ob, e7, hgb, r2⟩ := entsOfSl (GS.out.kp zk) hx0
                subst e7
                have d3 := r2 i _ hu 0 _ rfl
                have d4 := r2 i' _ hv 0 _ rfl
                simp only [Nat.add_zero, Nat.mul_one] at d3 d4
                have jg : decide ((i : Int) < (xs.length : Int)) = true := decide_eq_true (by omega)
                have juv : decide (u ≤ v) = false := decide_eq_false (by omega)
                have ei : IntKind.i64.wrap ((i : Int) - 1) = (i' : Int) := by rw [IntKind.wrap_i64]; omega
                have hii : i' < xs.length := by omega
                have hg4z := Nat.lt_of_lt_of_le hg4 zk.size
                clear r2 hu hv hvu hi' hg4'
                go_wp2_with fail
                (refine wp_region_held_drew (S := (fun w' => (∀ b o, b < wr.heap.size → w'.cell? ⟨b, o, none⟩ = wr.cell? ⟨b, o, none⟩) ∧ Kp wr w')) (by kernel_rfl) ?_ (fun hHd => ?_); (focus ((try dsimp only); (first | with_reducible assumption | with_reducible exact held_start _ | with_reducible exact held_next (by assumption) (by assumption) | with_reducible exact held_alloc (by assumption) _ | with_reducible exact held_drew (by assumption) | ((with_reducible refine held_kp ?_); (repeat (first | with_reducible assumption | with_reducible exact Kp.refl _ | with_reducible refine Kp.drew ?_ | with_reducible refine Kp.drewN ?_ _ | with_reducible refine Kp.alloc ?_ _ | ((with_reducible refine Kp.setCell ?_ ?_ _); rotate_left; (focus (first | omega | (simp; done) | (simp; omega)))) | with_reducible refine Kp.trans ?_ (by assumption))))))))
                (refine takeH (i := 0) (oi := ?o93) (v := ?v93) ?h93 (by kernel_rfl) ?q93 (Or.inl ⟨?w93, ?y93⟩) (by assumption) ?r93; (case h93 => ((simp only [g1, g3]); rfl)); (case q93 => exact fun _ _ _ h => h); (case w93 => rfl); (case y93 => (intro w' hSw; (try dsimp only at hSw); go_simp; (try with_reducible rfl))); (try simp only [Act.put, s1, s2, s3]))
                (refine takeH (i := 1) (oi := ?o94) (v := ?v94) ?h94 (by kernel_rfl) ?q94 (Or.inl ⟨?w94, ?y94⟩) (by assumption) ?r94; (case h94 => ((simp only [g1, g2, g3]); rfl)); (case q94 => exact fun _ _ _ h => h); (case w94 => rfl); (case y94 => (intro w' hSw; (try dsimp only at hSw); go_simp; (try with_reducible rfl))); (try simp only [Act.put, s1, s2, s3]))
                (refine takeH (i := 2) (oi := ?o95) (v := ?v95) ?h95 (by kernel_rfl) ?q95 (Or.inl ⟨?w95, ?y95⟩) (by assumption) ?r95; (case h95 => ((simp only [g1, g2, g3]); rfl)); (case q95 => exact fun _ _ _ h => h); (case w95 => rfl); (case y95 => (intro w' hSw; (try dsimp only at hSw); go_simp; (try with_reducible rfl))); (try simp only [Act.put, s1, s2, s3]))
                (refine takeH (i := 3) (oi := ?o96) (v := ?v96) ?h96 (by kernel_rfl) ?q96 (Or.inl ⟨?w96, ?y96⟩) (by assumption) ?r96; (case h96 => ((simp only [g1, g2, g3]); rfl)); (case q96 => exact fun _ _ _ h => h); (case w96 => rfl); (case y96 => (intro w' hSw; (try dsimp only at hSw); go_simp; (try with_reducible rfl))); (try simp only [Act.put, s1, s2, s3]))
                (refine takeH (i := 4) (oi := ?o97) (v := ?v97) ?h97 (by kernel_rfl) ?q97 (Or.inl ⟨?w97, ?y97⟩) (by assumption) ?r97; (case h97 => ((simp only [g1, g2, g3]); rfl)); (case q97 => exact fun _ _ _ h => h); (case w97 => rfl); (case y97 => (intro w' hSw; (try dsimp only at hSw); go_simp; (try with_reducible rfl))); (try simp only [Act.put, s1, s2, s3]))
                (refine takeH (i := 5) (oi := ?o98) (v := ?v98) ?h98 (by kernel_rfl) ?q98 (Or.inl ⟨?w98, ?y98⟩) (by assumption) ?r98; (case h98 => ((simp only [g1, g2, g3]); rfl)); (case q98 => exact fun _ _ _ h => h); (case w98 => rfl); (case y98 => (intro w' hSw; (try dsimp only at hSw); go_simp; (try with_reducible rfl))); (try simp only [Act.put, s1, s2, s3]))
                (refine takeH (i := 6) (oi := ?o99) (v := ?v99) ?h99 (by kernel_rfl) ?q99 (Or.inl ⟨?w99, ?y99⟩) (by assumption) ?r99; (case h99 => ((simp only [g1, g2, g3]); rfl)); (case q99 => exact fun _ _ _ h => h); (case w99 => rfl); (case y99 => (intro w' hSw; (try dsimp only at hSw); go_simp; (try with_reducible rfl))); (try simp only [Act.put, s1, s2, s3]))
                (refine takeH (i := 7) (oi := ?o100) (v := ?v100) ?h100 (by kernel_rfl) ?q100 (Or.inl ⟨?w100, ?y100⟩) (by assumption) ?r100; (case h100 => ((simp only [g1, g2, g3]); rfl)); (case q100 => exact fun _ _ _ h => h); (case w100 => rfl); (case y100 => (intro w' hSw; (try dsimp only at hSw); go_simp; (try with_reducible rfl))); (try simp only [Act.put, s1, s2, s3]))
                (refine takeH (i := 8) (oi := ?o101) (v := ?v101) ?h101 (by kernel_rfl) ?q101 (Or.inl ⟨?w101, ?y101⟩) (by assumption) ?r101; (case h101 => ((simp only [g1, g2, g3]); rfl)); (case q101 => exact fun _ _ _ h => h); (case w101 => rfl); (case y101 => (intro w' hSw; (try dsimp only at hSw); go_simp; (try with_reducible rfl))); (try simp only [Act.put, s1, s2, s3]))
                (refine takeH (i := 9) (oi := ?o102) (v := ?v102) ?h102 (by kernel_rfl) ?q102 (Or.inl ⟨?w102, ?y102⟩) (by assumption) ?r102; (case h102 => ((simp only [g1, g2, g3]); rfl)); (case q102 => exact fun _ _ _ h => h); (case w102 => rfl); (case y102 => (intro w' hSw; (try dsimp only at hSw); go_simp; (try with_reducible rfl))); (try simp only [Act.put, s1, s2, s3]))
                (refine takeH (i := 10) (oi := ?o103) (v := ?v103) ?h103 (by kernel_rfl) ?q103 (Or.inl ⟨?w103, ?y103⟩) (by assumption) ?r103; (case h103 => ((simp only [g1, g2, g3]); rfl)); (case q103 => exact fun _ _ _ h => h); (case w103 => rfl); (case y103 => (intro w' hSw; (try dsimp only at hSw); go_simp; (try with_reducible rfl))); (try simp only [Act.put, s1, s2, s3]))
                (refine takeH (i := 11) (oi := ?o104) (v := ?v104) ?h104 (by kernel_rfl) ?q104 (Or.inl ⟨?w104, ?y104⟩) (by assumption) ?r104; (case h104 => ((simp only [g1, g2, g3]); rfl)); (case q104 => exact fun _ _ _ h => h); (case w104 => rfl); (case y104 => (intro w' hSw; (try dsimp only at hSw); go_simp; (try with_reducible rfl))); (try simp only [Act.put, s1, s2, s3]))
                (refine takeH (i := 12) (oi := ?o105) (v := ?v105) ?h105 (by kernel_rfl) ?q105 (Or.inl ⟨?w105, ?y105⟩) (by assumption) ?r105; (case h105 => ((simp only [g1, g2, g3]); rfl)); (case q105 => exact fun _ _ _ h => h); (case w105 => rfl); (case y105 => (intro w' hSw; (try dsimp only at hSw); go_simp; (try with_reducible rfl))); (try simp only [Act.put, s1, s2, s3]))
                (refine takeH (i := 13) (oi := ?o106) (v := ?v106) ?h106 (by kernel_rfl) ?q106 (Or.inl ⟨?w106, ?y106⟩) (by assumption) ?r106; (case h106 => ((simp only [g1, g2, g3]); rfl)); (case q106 => exact fun _ _ _ h => h); (case w106 => rfl); (case y106 => (intro w' hSw; (try dsimp only at hSw); go_simp; (try with_reducible rfl))); (try simp only [Act.put, s1, s2, s3]))
                (refine takeH (i := 14) (oi := ?o107) (v := ?v107) ?h107 (by kernel_rfl) ?q107 (Or.inl ⟨?w107, ?y107⟩) (by assumption) ?r107; (case h107 => ((simp only [g1, g2, g3]); rfl)); (case q107 => exact fun _ _ _ h => h); (case w107 => rfl); (case y107 => (intro w' hSw; (try dsimp only at hSw); go_simp; (try with_reducible rfl))); (try simp only [Act.put, s1, s2, s3]))
                (refine takeH (i := 15) (oi := ?o108) (v := ?v108) ?h108 (by kernel_rfl) ?q108 (Or.inl ⟨?w108, ?y108⟩) (by assumption) ?r108; (case h108 => ((simp only [g1, g2, g3]); rfl)); (case q108 => exact fun _ _ _ h => h); (case w108 => rfl); (case y108 => (intro w' hSw; (try dsimp only at hSw); go_simp; (try with_reducible rfl))); (try simp only [Act.put, s1, s2, s3]))
                (refine takeH (i := 16) (oi := ?o109) (v := ?v109) ?h109 (by kernel_rfl) ?q109 (Or.inl ⟨?w109, ?y109⟩) (by assumption) ?r109; (case h109 => ((simp only [g1, g2, g3]); rfl)); (case q109 => exact fun _ _ _ h => h); (case w109 => rfl); (case y109 => (intro w' hSw; (try dsimp only at hSw); go_simp; (try with_reducible rfl))); (try simp only [Act.put, s1, s2, s3]))
                (refine takeH (i := 17) (oi := ?o110) (v := ?v110) ?h110 (by kernel_rfl) ?q110 (Or.inl ⟨?w110, ?y110⟩) (by assumption) ?r110; (case h110 => ((simp only [g1, g2, g3]); rfl)); (case q110 => exact fun _ _ _ h => h); (case w110 => rfl); (case y110 => (intro w' hSw; (try dsimp only at hSw); go_simp; (try with_reducible rfl))); (try simp only [Act.put, s1, s2, s3]))
                refine wpAnyH_done (by kernel_rfl) ?_ _
                go_wp2_with fail
                go_roundw
                case rel => exact ⟨i + 1, by omega, by omega, by go_num, zk.trans hHd.2⟩
                case measure => simp [intOf]; omega
              · obtain rfl : i = xs.length := by omega
                have jg : decide ((xs.length : Int) < (xs.length : Int)) = false := decide_eq_false (by omega)
                go_wp2_with fail
                go_roundw
                case rel => exact ⟨k + 1, by omega, by go_num, zk⟩
                case measure => simp [intOf]; omega
        · obtain rfl : k = L.length := by omega
          have ji2 : decide ((L.length : Int) < (L.length : Int)) = false := decide_eq_false (by omega)
          go_wp2_with fail
          refine (awake9_any _ (HE.out.kp (kw1.trans yk))).mono ?_
          rintro e w9 ⟨rfl, k9⟩
          go_wp2_with fail
          (try go_ret)
          exact ⟨rfl, (kw1.trans yk).trans k9⟩
set_option maxHeartbeats 1000000 in
theorem indexHas_far1 (a ca : Option Addr) (len cap clen ccap : Nat) (P : Int) (w : World) (he : Env w) (h : 100 < len) :
    Calls Tryd.prog 5 #[.slice a len cap, .slice ca clen ccap, .int .i64 P] w fun e w' => e = .returned (.bool true) ∧ Kp w w' := by
  have HE := Lib.hid he
  clear he
  have j1 : decide ((100 : Int) < (len : Int)) = true := decide_eq_true (by omega)
  have j1' : decide (100 < len) = true := decide_eq_true (by omega)
  go_enter Tryd.func5, Tryd.ntmps5
  go_wp2_with fail
  refine (awake9_any _ HE.out).mono ?_
  rintro e w7 ⟨rfl, k10⟩
  go_wp2_with fail
  (try go_ret)
  exact ⟨rfl, k10⟩
set_option maxHeartbeats 1000000 in
theorem indexHas_far2 (a ca : Option Addr) (len cap clen ccap : Nat) (P : Int) (w : World) (he : Env w) (h : ¬ 100 < len) (h3 : 60 < clen) :
    Calls Tryd.prog 5 #[.slice a len cap, .slice ca clen ccap, .int .i64 P] w fun e w' => e = .returned (.bool true) ∧ Kp w w' := by
  have HE := Lib.hid he
  clear he
  have j1 : decide ((100 : Int) < (len : Int)) = false := decide_eq_false (by omega)
  have j1' : decide (100 < len) = false := decide_eq_false (by omega)
  have j2 : decide ((60 : Int) < (clen : Int)) = true := decide_eq_true (by omega)
  have j2' : decide (60 < clen) = true := decide_eq_true (by omega)
  go_enter Tryd.func5, Tryd.ntmps5
  go_wp2_with fail
  refine (awake9_any _ HE.out).mono ?_
  rintro e w7 ⟨rfl, k10⟩
  go_wp2_with fail
  (try go_ret)
  exact ⟨rfl, k10⟩
set_option maxHeartbeats 1000000 in
theorem indexHas_far3 (a ca : Option Addr) (len cap clen ccap : Nat) (P : Int) (w : World) (he : Env w) (h : ¬ 100 < len) (h3 : ¬ 60 < clen) (h4 : P < 1) :
    Calls Tryd.prog 5 #[.slice a len cap, .slice ca clen ccap, .int .i64 P] w fun e w' => e = .returned (.bool true) ∧ Kp w w' := by
  have HE := Lib.hid he
  clear he
  have j1 : decide ((100 : Int) < (len : Int)) = false := decide_eq_false (by omega)
  have j1' : decide (100 < len) = false := decide_eq_false (by omega)
  have j2 : decide ((60 : Int) < (clen : Int)) = false := decide_eq_false (by omega)
  have j2' : decide (60 < clen) = false := decide_eq_false (by omega)
  have j3 : decide (P < 1) = true := decide_eq_true (by omega)
  go_enter Tryd.func5, Tryd.ntmps5
  go_wp2_with fail
  refine (awake9_any _ HE.out).mono ?_
  rintro e w7 ⟨rfl, k10⟩
  go_wp2_with fail
  (try go_ret)
  exact ⟨rfl, k10⟩
set_option maxHeartbeats 1000000 in
theorem indexHas_far4 (a ca : Option Addr) (len cap clen ccap : Nat) (P : Int) (w : World) (he : Env w) (h : ¬ 100 < len) (h3 : ¬ 60 < clen) (h4 : ¬ P < 1) (h5 : 100 < P) :
    Calls Tryd.prog 5 #[.slice a len cap, .slice ca clen ccap, .int .i64 P] w fun e w' => e = .returned (.bool true) ∧ Kp w w' := by
  have HE := Lib.hid he
  clear he
  have j1 : decide ((100 : Int) < (len : Int)) = false := decide_eq_false (by omega)
  have j1' : decide (100 < len) = false := decide_eq_false (by omega)
  have j2 : decide ((60 : Int) < (clen : Int)) = false := decide_eq_false (by omega)
  have j2' : decide (60 < clen) = false := decide_eq_false (by omega)
  have j3 : decide (P < 1) = false := decide_eq_false (by omega)
  have j4 : decide (100 < P) = true := decide_eq_true (by omega)
  go_enter Tryd.func5, Tryd.ntmps5
  go_wp2_with fail
  refine (awake9_any _ HE.out).mono ?_
  rintro e w7 ⟨rfl, k10⟩
  go_wp2_with fail
  (try go_ret)
  exact ⟨rfl, k10⟩
theorem indexHas_row (L : SlV Item) (C : SlV Col) (P : Int) (w : World) (hL : SlOk w 7 Item.cells L.a L.len L.cap L.l ∧ ∀ z, z ∈ L.l → Item.ok z) (hC : SlOk w 6 Col.cells C.a C.len C.cap C.l ∧ ∀ z, z ∈ C.l → Col.ok z) (_ : -9223372036854775808 ≤ P ∧ P ≤ 9223372036854775807) (he : Env w) :
    Calls Tryd.prog 5 #[L.v, C.v, .int .i64 P] w fun e w' => e = .returned (.bool true) ∧ Kp w w' := by
  have e1 := hL.1.1
  have e2 := hC.1.1
  by_cases h : 100 < L.len
  · exact indexHas_far1 _ _ _ _ _ _ _ w he h
  by_cases h3 : 60 < C.len
  · exact indexHas_far2 _ _ _ _ _ _ _ w he h h3
  by_cases h4 : P < 1
  · exact indexHas_far3 _ _ _ _ _ _ _ w he h h3 h4
  by_cases h5 : 100 < P
  · exact indexHas_far4 _ _ _ _ _ _ _ w he h h3 h4 h5
  have hL1 := hL.1
  have hC1 := hC.1
  unfold SlV.v
  rw [← e1] at h hL1 ⊢
  rw [← e2] at h3 hC1 ⊢
  have e : P = ((P.toNat : Nat) : Int) := by omega
  rw [e]
  exact indexHas_main L.a C.a L.cap C.cap L.l C.l P.toNat w he hL1 hC1 (by omega) (by omega) (fun z hz => (hL.2 z hz).2.2.2.2.2.2) (by omega) (by omega)
end Go.Proofs.YtkgfnkfgmnijbaaDoor
