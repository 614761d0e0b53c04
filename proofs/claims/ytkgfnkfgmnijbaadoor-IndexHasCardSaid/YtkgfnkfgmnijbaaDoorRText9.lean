/- The index as a text: the document's. -/
import Derived.Test.YtkgfnkfgmnijbaaDoorText9

import Derived.Test.YtkgfnkfgmnijbaaDoorDig9

namespace Go.Proofs.YtkgfnkfgmnijbaaDoor

open Go.RowKit

set_option maxRecDepth 100000 in
set_option maxHeartbeats 4000000 in
theorem refText_any (a : Option Addr) (cap : Nat) (l : List Ent) (w : World) (hl : SlOk w 2 Ent.cells a l.length cap l) (hg : ∀ y, y ∈ l → y.good w) (hn : l.length ≤ 1000) :
    Calls Tryd.prog 11 #[.slice a l.length cap] w fun e w' => e = .returned (sv (textL l)) ∧ Kp w w' := by
  have HL := Lib.hid hl
  have HG := Lib.hid hg
  have HP : Hid (∀ k, ((l.take k).flatMap entT).length ≤ 44100000) := Lib.hid (fun k => by
    have := flat_bound9 (C := 44100) (f := entT) (l := l.take k) fun x hx => entT_short (HG.out x (List.mem_of_mem_take hx))
    rw [List.length_take] at this
    have : min k l.length ≤ 1000 := by omega
    omega)
  have hcl := hl.2.1
  have hcm := hl.2.2.1
  unfold maxLen at hcm
  have BA := @ba_append
  clear hl hg
  go_enter Tryd.func11, Tryd.ntmps11
  go_wp2_with fail
  go_loopw [3, 4] (fun v3 v4 wr => ∃ (k : Nat), k ≤ l.length ∧ v4 = .int .i64 k ∧ v3 = sv ((l.take k).flatMap entT) ∧ Kp w wr) (fun _ v4 _ => l.length - (intOf v4).toNat)
  case atStart => exact ⟨0, Nat.zero_le _, rfl, rfl, (by (repeat (first | with_reducible assumption | with_reducible exact Kp.refl _ | with_reducible refine Kp.drew ?_ | with_reducible refine Kp.drewN ?_ _ | with_reducible refine Kp.alloc ?_ _ | ((with_reducible refine Kp.setCell ?_ ?_ _); rotate_left; (focus (first | omega | (simp; done) | (simp; omega)))) | with_reducible refine Kp.trans ?_ (by assumption))))⟩
  case round =>
    obtain ⟨k, hk, rfl, rfl, xk⟩ := hrel
    have hT := HP.out k
    obtain ⟨T, hTe⟩ : ∃ T, (l.take k).flatMap entT = T := ⟨_, rfl⟩
    rw [hTe] at hT ⊢
    by_cases hlt : k < l.length
    · obtain ⟨x, hx⟩ : ∃ x, l[k]? = some x := ⟨l[k]'hlt, List.getElem?_eq_getElem _⟩
      have hsn := flat_snoc9 (f := entT) hx
      have hgx := HG.out x (List.mem_of_getElem? hx)
      rw [hTe] at hsn
      have tl := HL.out.kp xk
      rcases tl.2.2.2 with e | ⟨ga, oa, rfl, hga, r1⟩
      · rw [e] at hlt; simp at hlt
      have hrf := runs_few hgx
      have hro := runs_ok hgx
      have hit := itoa_short hgx.n
      have hen : entT x = Lib.itoa x.n ++ [58] ++ (runsL x.s.l).flatMap runN ++ [10] := rfl
      obtain ⟨xn, ⟨sa, sl, sc, ss⟩⟩ := x
      have d0 := r1 k _ hx 0 _ rfl
      have e1 : wr.cell? ⟨ga, oa + k * 2 + 1, none⟩ = some (.slice sa sl sc) := r1 k _ hx 1 _ rfl
      have hsl := hgx.len
      simp only [Nat.add_zero] at d0 hit hen hrf hro hsl
      subst hsl
      have C1 : Hid (∀ w', Kp w w' → Calls Tryd.prog 24 #[.int .i64 xn] w' fun e w'' => e = .returned (sv (Lib.itoa xn)) ∧ Kp w' w'') := Lib.hid fun w' _ => number_any xn hgx.n w'
      have C2 : Hid (∀ w', Kp w w' → Calls Tryd.prog 9 #[.slice sa ss.length sc] w' fun e w'' => ∃ v, e = .returned v ∧ Row w'' w'.heap.size 34 2 encR v (runsL ss) ∧ Kp w' w'') := Lib.hid fun w' k => refRuns_any sa sc ss w' (hgx.s.kp k) (by have := hgx.few; simp only at this; omega) hgx.ok
      obtain ⟨I, hI⟩ : ∃ I, Lib.itoa xn = I := ⟨_, rfl⟩
      obtain ⟨rs, hrs⟩ : ∃ I, runsL ss = I := ⟨_, rfl⟩
      rw [hI] at C1 hit hen
      rw [hrs] at C2 hrf hro hen
      rw [hen] at hsn
      have HSN := Lib.hid hsn
      have HRO := Lib.hid hro
      have j1 : decide ((k : Int) < (l.length : Int)) = true := decide_eq_true (by omega)
      have z1 : ¬ 9223372036854775807 < T.length + I.length := by omega
      have z2 : ¬ 9223372036854775807 < T.length + I.length + 1 := by omega
      have z3 : ¬ 9223372036854775807 < T.length + (I.length + 1) := by omega
      clear tl r1 hx hsn hgx hI hrs hen hro hTe
      obtain ⟨wa, rfl⟩ : ∃ u, u = wr := ⟨_, rfl⟩
      go_wp2_with fail
      refine (C1.out _ (by (repeat (first | with_reducible assumption | with_reducible exact Kp.refl _ | with_reducible refine Kp.drew ?_ | with_reducible refine Kp.drewN ?_ _ | with_reducible refine Kp.alloc ?_ _ | ((with_reducible refine Kp.setCell ?_ ?_ _); rotate_left; (focus (first | omega | (simp; done) | (simp; omega)))) | with_reducible refine Kp.trans ?_ (by assumption))))).mono ?_
      rintro e w1 ⟨rfl, k1⟩
      have xk1 := xk.trans k1
      have e1' : w1.cell? ⟨ga, oa + k * 2 + 1, none⟩ = some (.slice sa ss.length sc) := (k1.cell (p := ⟨ga, oa + k * 2 + 1, none⟩) hga).trans e1
      clear k1 xk C1 d0 e1
      go_wp2_with fail
      refine (C2.out _ xk1).mono ?_
      rintro e w4 ⟨v4, rfl, hr4, k4⟩
      have xk4 := xk1.trans k4
      obtain ⟨fa, fc, rfl, hfs⟩ := hr4.sl (fun _ => rfl)
      have hfc := hfs.2.1
      have hfm := hfs.2.2.1
      unfold maxLen at hfm
      have HR4 := Lib.hid hr4
      clear xk1 e1' C2 k4 hr4 hfs
      obtain ⟨A, hA⟩ : ∃ A, T ++ I ++ [58] = A := ⟨_, rfl⟩
      have hA' : T ++ (I ++ [58]) = A := by rw [← hA]; simp
      have hAl : A.length ≤ 44100022 := by rw [← hA]; simp only [List.length_append, List.length_singleton]; omega
      go_wp2_with fail
      (try simp only [hA, hA'])
      go_loopw [3, 6] (fun v3 v6 wr' => ∃ (q : Nat), q ≤ rs.length ∧ v6 = .int .i64 q ∧ v3 = sv (A ++ (rs.take q).flatMap runN) ∧ Row wr' w1.heap.size 34 2 encR (.slice fa rs.length fc) rs ∧ Kp w wr') (fun _ v6 _ => rs.length - (intOf v6).toNat)
      case atStart => exact ⟨0, Nat.zero_le _, rfl, by simp [sv, ← hA], HR4.out, xk4⟩
      case round =>
        clear xk4 HR4
        obtain ⟨q, hq, rfl, rfl, yr, yk⟩ := hrel
        have hfl := flat_bound9 (C := 44) (f := runN) (l := rs.take q) fun r hr => by have := runT_short (HRO.out r (List.mem_of_mem_take hr)); unfold runN; simp; omega
        rw [List.length_take] at hfl
        have hfl2 : ((rs.take q).flatMap runN).length ≤ 44000 := by have : min q rs.length ≤ 1000 := by omega
                                                                    omega
        obtain ⟨V, hV⟩ : ∃ V, (rs.take q).flatMap runN = V := ⟨_, rfl⟩
        obtain ⟨A2, hA2⟩ : ∃ V2, A ++ V = V2 := ⟨_, rfl⟩
        rw [hV] at hfl2
        have hA2l : A2.length ≤ 44144022 := by rw [← hA2, List.length_append]; omega
        rw [hV, hA2]
        clear hfl
        by_cases hlt2 : q < rs.length
        · obtain ⟨r, hr⟩ : ∃ x, rs[q]? = some x := ⟨rs[q]'hlt2, List.getElem?_eq_getElem _⟩
          have hrn := flat_snoc9 (f := runN) hr
          have hro2 := HRO.out r (List.mem_of_getElem? hr)
          obtain ⟨g, c', hv, _, hgs, _⟩ := yr.shape (by omega)
          simp only [Value.slice.injEq] at hv
          obtain ⟨rfl, _, rfl⟩ := hv
          have c0 := Row.cellN (enc := encR) (n := 2) (fun _ => rfl) yr rfl hr (j := 0) rfl
          have c1 := Row.cellN (enc := encR) (n := 2) (fun _ => rfl) yr rfl hr (j := 1) rfl
          simp only [Nat.add_zero] at c0 c1
          have C3 : Hid (∀ w', Calls Tryd.prog 24 #[.int .i64 r.f] w' fun e w'' => e = .returned (sv (Lib.itoa r.f)) ∧ Kp w' w'') := Lib.hid fun w' => number_any r.f hro2.1 w'
          have C4 : Hid (∀ w', Calls Tryd.prog 24 #[.int .i64 r.t] w' fun e w'' => e = .returned (sv (Lib.itoa r.t)) ∧ Kp w' w'') := Lib.hid fun w' => number_any r.t hro2.2 w'
          have i1 := itoa_short hro2.1
          have i2 := itoa_short hro2.2
          have hrd : runN r = 32 :: (Lib.itoa r.f ++ if r.t = r.f then [] else 45 :: Lib.itoa r.t) := rfl
          obtain ⟨R1, hR1⟩ : ∃ I, Lib.itoa r.f = I := ⟨_, rfl⟩
          obtain ⟨R2, hR2⟩ : ∃ I, Lib.itoa r.t = I := ⟨_, rfl⟩
          rw [hR1] at C3 i1 hrd
          rw [hR2] at C4 i2 hrd
          rw [hV, hrd] at hrn
          obtain ⟨rf, rt⟩ := r
          simp only at c0 c1 C3 C4 hrn
          have hnx : A ++ (rs.take (q + 1)).flatMap runN = A2 ++ [32] ++ R1 ++ (if rt = rf then [] else 45 :: R2) := by rw [hrn, ← List.append_assoc, hA2]; simp
          have HNX := Lib.hid hnx
          have YR := Lib.hid yr
          have j2 : decide ((q : Int) < (rs.length : Int)) = true := decide_eq_true (by omega)
          have y1 : ¬ 9223372036854775807 < A2.length + 1 := by omega
          have y2 : ¬ 9223372036854775807 < A2.length + 1 + R1.length := by omega
          have y3 : ¬ 9223372036854775807 < A2.length + (R1.length + 1) := by omega
          have y4 : ¬ 9223372036854775807 < A2.length + (1 + R1.length) := by omega
          clear hr hrn hro2 hR1 hR2 hrd hnx yr hV hA2 hA hA'
          go_wp2_with fail
          refine (C3.out _).mono ?_
          rintro e w6 ⟨rfl, k6⟩
          have yk6 := yk.trans k6
          have c0' : w6.cell? ⟨g, q * 2, none⟩ = some (.int .i64 rf) := (k6.cell (p := ⟨g, q * 2, none⟩) hgs).trans c0
          have c1' : w6.cell? ⟨g, q * 2 + 1, none⟩ = some (.int .i64 rt) := (k6.cell (p := ⟨g, q * 2 + 1, none⟩) hgs).trans c1
          have yr6 := YR.out.kp k6
          have hgs6 : g < w6.heap.size := Nat.lt_of_lt_of_le hgs k6.size
          clear YR yk k6 c0 c1 hgs C3
          obtain ⟨A3, hA3⟩ : ∃ V2, A2 ++ [32] ++ R1 = V2 := ⟨_, rfl⟩
          have hA3' : A2 ++ ([32] ++ R1) = A3 := by rw [← hA3]; simp
          have hA3'' : A2 ++ 32 :: R1 = A3 := by rw [← hA3]; simp
          have hA3l : A3.length = A2.length + 1 + R1.length := by rw [← hA3]; simp only [List.length_append, List.length_singleton]
          rw [hA3] at HNX
          go_wp2_with fail
          (try simp only [hA3, hA3', hA3''])
          clear hA3 hA3' hA3''
          by_cases hc : rt = rf
          · subst hc
            have e2 : (rt == rt) = true := by simp
            have e3 : (rt != rt) = false := by simp
            rw [if_pos rfl, List.append_nil] at HNX
            (refine wp_region_held_drew (S := (fun w' => (∀ b o, b < w6.heap.size → w'.cell? ⟨b, o, none⟩ = w6.cell? ⟨b, o, none⟩) ∧ Kp w6 w')) (by kernel_rfl) ?_ (fun hHd => ?_); (focus ((try dsimp only); (first | with_reducible assumption | with_reducible exact held_start _ | with_reducible exact held_next (by assumption) (by assumption) | with_reducible exact held_alloc (by assumption) _ | with_reducible exact held_drew (by assumption) | ((with_reducible refine held_kp ?_); (repeat (first | with_reducible assumption | with_reducible exact Kp.refl _ | with_reducible refine Kp.drew ?_ | with_reducible refine Kp.drewN ?_ _ | with_reducible refine Kp.alloc ?_ _ | ((with_reducible refine Kp.setCell ?_ ?_ _); rotate_left; (focus (first | omega | (simp; done) | (simp; omega)))) | with_reducible refine Kp.trans ?_ (by assumption))))))))
            (refine takeH (i := 0) (oi := ?o106) (v := ?v106) ?h106 (by kernel_rfl) ?q106 (Or.inl ⟨?w106, ?y106⟩) (by assumption) ?r106; (case h106 => ((simp only [g1, g3]); rfl)); (case q106 => exact fun _ _ _ h => h); (case w106 => rfl); (case y106 => (intro w' hSw; (try dsimp only at hSw); go_simp; (try with_reducible rfl))); (try simp only [Act.put, s1, s2, s3]))
            (refine takeH (i := 1) (oi := ?o107) (v := ?v107) ?h107 (by kernel_rfl) ?q107 (Or.inl ⟨?w107, ?y107⟩) (by assumption) ?r107; (case h107 => ((simp only [g1, g2, g3]); rfl)); (case q107 => exact fun _ _ _ h => h); (case w107 => rfl); (case y107 => (intro w' hSw; (try dsimp only at hSw); go_simp; (try with_reducible rfl))); (try simp only [Act.put, s1, s2, s3]))
            (refine takeH (i := 2) (oi := ?o108) (v := ?v108) ?h108 (by kernel_rfl) ?q108 (Or.inl ⟨?w108, ?y108⟩) (by assumption) ?r108; (case h108 => ((simp only [g1, g2, g3]); rfl)); (case q108 => exact fun _ _ _ h => h); (case w108 => rfl); (case y108 => (intro w' hSw; (try dsimp only at hSw); go_simp; (try with_reducible rfl))); (try simp only [Act.put, s1, s2, s3]))
            (refine takeH (i := 3) (oi := ?o109) (v := ?v109) ?h109 (by kernel_rfl) ?q109 (Or.inl ⟨?w109, ?y109⟩) (by assumption) ?r109; (case h109 => ((simp only [g1, g2, g3]); rfl)); (case q109 => exact fun _ _ _ h => h); (case w109 => rfl); (case y109 => (intro w' hSw; (try dsimp only at hSw); go_simp; (try with_reducible rfl))); (try simp only [Act.put, s1, s2, s3]))
            (refine takeH (i := 4) (oi := ?o110) (v := ?v110) ?h110 (by kernel_rfl) ?q110 (Or.inl ⟨?w110, ?y110⟩) (by assumption) ?r110; (case h110 => ((simp only [g1, g2, g3]); rfl)); (case q110 => exact fun _ _ _ h => h); (case w110 => rfl); (case y110 => (intro w' hSw; (try dsimp only at hSw); go_simp; (try with_reducible rfl))); (try simp only [Act.put, s1, s2, s3]))
            (refine takeH (i := 5) (oi := ?o111) (v := ?v111) ?h111 (by kernel_rfl) ?q111 (Or.inl ⟨?w111, ?y111⟩) (by assumption) ?r111; (case h111 => ((simp only [g1, g2, g3]); rfl)); (case q111 => exact fun _ _ _ h => h); (case w111 => rfl); (case y111 => (intro w' hSw; (try dsimp only at hSw); go_simp; (try with_reducible rfl))); (try simp only [Act.put, s1, s2, s3]))
            (refine takeH (i := 6) (oi := ?o112) (v := ?v112) ?h112 (by kernel_rfl) ?q112 (Or.inl ⟨?w112, ?y112⟩) (by assumption) ?r112; (case h112 => ((simp only [g1, g2, g3]); rfl)); (case q112 => exact fun _ _ _ h => h); (case w112 => rfl); (case y112 => (intro w' hSw; (try dsimp only at hSw); go_simp; (try with_reducible rfl))); (try simp only [Act.put, s1, s2, s3]))
            (refine takeH (i := 7) (oi := ?o113) (v := ?v113) ?h113 (by kernel_rfl) ?q113 (Or.inl ⟨?w113, ?y113⟩) (by assumption) ?r113; (case h113 => ((simp only [g1, g2, g3]); rfl)); (case q113 => exact fun _ _ _ h => h); (case w113 => rfl); (case y113 => (intro w' hSw; (try dsimp only at hSw); go_simp; (try with_reducible rfl))); (try simp only [Act.put, s1, s2, s3]))
            (refine takeH (i := 8) (oi := ?o114) (v := ?v114) ?h114 (by kernel_rfl) ?q114 (Or.inl ⟨?w114, ?y114⟩) (by assumption) ?r114; (case h114 => ((simp only [g1, g2, g3]); rfl)); (case q114 => exact fun _ _ _ h => h); (case w114 => rfl); (case y114 => (intro w' hSw; (try dsimp only at hSw); go_simp; (try with_reducible rfl))); (try simp only [Act.put, s1, s2, s3]))
            (refine takeH (i := 9) (oi := ?o115) (v := ?v115) ?h115 (by kernel_rfl) ?q115 (Or.inl ⟨?w115, ?y115⟩) (by assumption) ?r115; (case h115 => ((simp only [g1, g2, g3]); rfl)); (case q115 => exact fun _ _ _ h => h); (case w115 => rfl); (case y115 => (intro w' hSw; (try dsimp only at hSw); go_simp; (try with_reducible rfl))); (try simp only [Act.put, s1, s2, s3]))
            (refine takeH (i := 10) (oi := ?o116) (v := ?v116) ?h116 (by kernel_rfl) ?q116 (Or.inl ⟨?w116, ?y116⟩) (by assumption) ?r116; (case h116 => ((simp only [g1, g2, g3]); rfl)); (case q116 => exact fun _ _ _ h => h); (case w116 => rfl); (case y116 => (intro w' hSw; (try dsimp only at hSw); go_simp; (try with_reducible rfl))); (try simp only [Act.put, s1, s2, s3]))
            refine wpAnyH_done (by kernel_rfl) ?_ _
            go_wp2_with fail
            go_roundw
            case rel => exact ⟨q + 1, by omega, by go_num, by rw [HNX.out], yr6.drew, yk6.drew⟩
            case measure => simp [intOf]; omega
          · have e2 : (rt == rf) = false := by simpa using hc
            have e3 : (rt != rf) = true := by simp [bne, e2]
            rw [if_neg hc] at HNX
            have y5 : ¬ 9223372036854775807 < A3.length + 1 := by omega
            have y6 : ¬ 9223372036854775807 < A3.length + 1 + R2.length := by omega
            have y7 : ¬ 9223372036854775807 < A3.length + (R2.length + 1) := by omega
            have y8 : ¬ 9223372036854775807 < A3.length + (1 + R2.length) := by omega
            (refine wp_region_held_drew (S := (fun w' => (∀ b o, b < w6.heap.size → w'.cell? ⟨b, o, none⟩ = w6.cell? ⟨b, o, none⟩) ∧ Kp w6 w')) (by kernel_rfl) ?_ (fun hHd => ?_); (focus ((try dsimp only); (first | with_reducible assumption | with_reducible exact held_start _ | with_reducible exact held_next (by assumption) (by assumption) | with_reducible exact held_alloc (by assumption) _ | with_reducible exact held_drew (by assumption) | ((with_reducible refine held_kp ?_); (repeat (first | with_reducible assumption | with_reducible exact Kp.refl _ | with_reducible refine Kp.drew ?_ | with_reducible refine Kp.drewN ?_ _ | with_reducible refine Kp.alloc ?_ _ | ((with_reducible refine Kp.setCell ?_ ?_ _); rotate_left; (focus (first | omega | (simp; done) | (simp; omega)))) | with_reducible refine Kp.trans ?_ (by assumption))))))))
            (refine takeH (i := 0) (oi := ?o117) (v := ?v117) ?h117 (by kernel_rfl) ?q117 (Or.inl ⟨?w117, ?y117⟩) (by assumption) ?r117; (case h117 => ((simp only [g1, g3]); rfl)); (case q117 => exact fun _ _ _ h => h); (case w117 => rfl); (case y117 => (intro w' hSw; (try dsimp only at hSw); go_simp; (try with_reducible rfl))); (try simp only [Act.put, s1, s2, s3]))
            (refine takeH (i := 1) (oi := ?o118) (v := ?v118) ?h118 (by kernel_rfl) ?q118 (Or.inl ⟨?w118, ?y118⟩) (by assumption) ?r118; (case h118 => ((simp only [g1, g2, g3]); rfl)); (case q118 => exact fun _ _ _ h => h); (case w118 => rfl); (case y118 => (intro w' hSw; (try dsimp only at hSw); go_simp; (try with_reducible rfl))); (try simp only [Act.put, s1, s2, s3]))
            (refine takeH (i := 2) (oi := ?o119) (v := ?v119) ?h119 (by kernel_rfl) ?q119 (Or.inl ⟨?w119, ?y119⟩) (by assumption) ?r119; (case h119 => ((simp only [g1, g2, g3]); rfl)); (case q119 => exact fun _ _ _ h => h); (case w119 => rfl); (case y119 => (intro w' hSw; (try dsimp only at hSw); go_simp; (try with_reducible rfl))); (try simp only [Act.put, s1, s2, s3]))
            (refine takeH (i := 3) (oi := ?o120) (v := ?v120) ?h120 (by kernel_rfl) ?q120 (Or.inl ⟨?w120, ?y120⟩) (by assumption) ?r120; (case h120 => ((simp only [g1, g2, g3]); rfl)); (case q120 => exact fun _ _ _ h => h); (case w120 => rfl); (case y120 => (intro w' hSw; (try dsimp only at hSw); go_simp; (try with_reducible rfl))); (try simp only [Act.put, s1, s2, s3]))
            (refine takeH (i := 4) (oi := ?o121) (v := ?v121) ?h121 (by kernel_rfl) ?q121 (Or.inl ⟨?w121, ?y121⟩) (by assumption) ?r121; (case h121 => ((simp only [g1, g2, g3]); rfl)); (case q121 => exact fun _ _ _ h => h); (case w121 => rfl); (case y121 => (intro w' hSw; (try dsimp only at hSw); go_simp; (try with_reducible rfl))); (try simp only [Act.put, s1, s2, s3]))
            (refine takeH (i := 5) (oi := ?o122) (v := ?v122) ?h122 (by kernel_rfl) ?q122 (Or.inl ⟨?w122, ?y122⟩) (by assumption) ?r122; (case h122 => ((simp only [g1, g2, g3]); rfl)); (case q122 => exact fun _ _ _ h => h); (case w122 => rfl); (case y122 => (intro w' hSw; (try dsimp only at hSw); go_simp; (try with_reducible rfl))); (try simp only [Act.put, s1, s2, s3]))
            (refine takeH (i := 6) (oi := ?o123) (v := ?v123) ?h123 (by kernel_rfl) ?q123 (Or.inl ⟨?w123, ?y123⟩) (by assumption) ?r123; (case h123 => ((simp only [g1, g2, g3]); rfl)); (case q123 => exact fun _ _ _ h => h); (case w123 => rfl); (case y123 => (intro w' hSw; (try dsimp only at hSw); go_simp; (try with_reducible rfl))); (try simp only [Act.put, s1, s2, s3]))
            (refine takeH (i := 7) (oi := ?o124) (v := ?v124) ?h124 (by kernel_rfl) ?q124 (Or.inl ⟨?w124, ?y124⟩) (by assumption) ?r124; (case h124 => ((simp only [g1, g2, g3]); rfl)); (case q124 => exact fun _ _ _ h => h); (case w124 => rfl); (case y124 => (intro w' hSw; (try dsimp only at hSw); go_simp; (try with_reducible rfl))); (try simp only [Act.put, s1, s2, s3]))
            (refine takeH (i := 8) (oi := ?o125) (v := ?v125) ?h125 (by kernel_rfl) ?q125 (Or.inl ⟨?w125, ?y125⟩) (by assumption) ?r125; (case h125 => ((simp only [g1, g2, g3]); rfl)); (case q125 => exact fun _ _ _ h => h); (case w125 => rfl); (case y125 => (intro w' hSw; (try dsimp only at hSw); go_simp; (try with_reducible rfl))); (try simp only [Act.put, s1, s2, s3]))
            (refine takeH (i := 9) (oi := ?o126) (v := ?v126) ?h126 (by kernel_rfl) ?q126 (Or.inl ⟨?w126, ?y126⟩) (by assumption) ?r126; (case h126 => ((simp only [g1, g2, g3]); rfl)); (case q126 => exact fun _ _ _ h => h); (case w126 => rfl); (case y126 => (intro w' hSw; (try dsimp only at hSw); go_simp; (try with_reducible rfl))); (try simp only [Act.put, s1, s2, s3]))
            (refine takeH (i := 10) (oi := ?o127) (v := ?v127) ?h127 (by kernel_rfl) ?q127 (Or.inl ⟨?w127, ?y127⟩) (by assumption) ?r127; (case h127 => ((simp only [g1, g2, g3]); rfl)); (case q127 => exact fun _ _ _ h => h); (case w127 => rfl); (case y127 => (intro w' hSw; (try dsimp only at hSw); go_simp; (try with_reducible rfl))); (try simp only [Act.put, s1, s2, s3]))
            refine wpAnyH_done (by kernel_rfl) ?_ _
            have yk7 : Kp w w6.drew := yk6.drew
            have yr7 := yr6.drew
            have c1d : w6.drew.cell? ⟨g, q * 2 + 1, none⟩ = some (.int .i64 rt) := c1'
            have hgs7 : g < w6.drew.heap.size := hgs6
            clear hHd yk6 yr6 c0' c1' hgs6
            generalize w6.drew = w7 at yk7 yr7 c1d hgs7 ⊢
            go_wp2_with fail
            refine (C4.out _).mono ?_
            rintro e w8 ⟨rfl, k8⟩
            have yk8 := yk7.trans k8
            have yr8 := yr7.kp k8
            go_wp2_with fail
            go_roundw
            case rel => exact ⟨q + 1, by omega, by go_num, by rw [HNX.out], yr8, yk8⟩
            case measure => simp [intOf]; omega
        · obtain rfl : q = rs.length := by omega
          have j2 : decide ((rs.length : Int) < (rs.length : Int)) = false := decide_eq_false (by omega)
          rw [List.take_length] at hV
          have hnx : (l.take (k + 1)).flatMap entT = A2 ++ [10] := by rw [HSN.out, hV, ← hA2, ← hA]; simp [List.append_assoc]
          have HNX := Lib.hid hnx
          have y1 : ¬ 9223372036854775807 < A2.length + 1 := by omega
          clear hnx hV hA2 yr hA hA'
          go_wp2_with fail
          go_roundw
          case rel => exact ⟨k + 1, by omega, by go_num, by rw [HNX.out], yk⟩
          case measure => simp [intOf]; omega
    · obtain rfl : k = l.length := by omega
      have j1 : decide ((l.length : Int) < (l.length : Int)) = false := decide_eq_false (by omega)
      rw [List.take_length] at hTe
      go_wp2_with fail
      go_ret
      exact ⟨by unfold textL; rw [hTe]; rfl, xk⟩
end Go.Proofs.YtkgfnkfgmnijbaaDoor
