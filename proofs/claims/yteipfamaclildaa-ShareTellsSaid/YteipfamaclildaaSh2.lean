/- The document's shares: the walks. -/
import Derived.Test.YteipfamaclildaaSh1

namespace Go.Proofs.Yteipfamaclildaa

open Go.RowKit

theorem field_a1 (x : Int) (o : Bool) (w : World) : (Instr.field 53 (.agg #[.int .i64 x, .bool o]) 0).run Try.prog w = .ok (.int .i64 x) w := by
  have hb := Try.isAgg28
  simp [Instr.field, go_sem, hb, part, asAgg]
theorem field_a2 (x : Int) (o : Bool) (w : World) : (Instr.field 55 (.agg #[.int .i64 x, .bool o]) 0).run Try.prog w = .ok (.int .i64 x) w := by
  have hb := Try.isAgg28
  simp [Instr.field, go_sem, hb, part, asAgg]
set_option maxRecDepth 100000 in
set_option maxHeartbeats 1000000 in
theorem refRight8_any (whole : Int) (a : Option Addr) (len cap : Nat) (l : List Int) (w : World) (hl : SlOk w 1 enc1 a len cap l) (hok : ∀ x, x ∈ l → I64 x) :
    Calls Try.prog 32 #[.int .i64 whole, .slice a len cap] w fun e w' => e = .returned (.bool (shOk whole l)) ∧ Kp w w' := by
  have cS := refSpSum_any a len cap l w hl hok
  have hcap := hl.2.1
  have hmx := hl.2.2.1
  unfold maxLen at hmx
  have CS := Lib.hid cS
  have HL := Lib.hid hl
  clear cS hl hok
  go_enter Try.func32, Try.ntmps32
  go_wp2
  go_loop [5] (fun v5 => ∃ k : Nat, k ≤ len ∧ v5 = .int .i64 k ∧ Hid (∀ x ∈ l.take k, 0 ≤ x)) (fun v5 => len - (intOf v5).toNat)
  case atStart => exact ⟨0, Nat.zero_le _, rfl, Lib.hid (by simp)⟩
  case round =>
    obtain ⟨k, hk, rfl, hs⟩ := hrel
    by_cases hlt : k < len
    · obtain ⟨x, hx⟩ : ∃ x, l[k]? = some x := ⟨l[k]'(by have := HL.out.1; omega), List.getElem?_eq_getElem _⟩
      rcases HL.out.2.2.2 with e | ⟨b, off, rfl, hb, hrow⟩
      · rw [e] at hx; simp at hx
      · have c0 := hrow k _ hx 0 _ rfl
        rw [Nat.add_zero, Nat.mul_one] at c0
        have HX := Lib.hid hx
        clear hrow hx
        by_cases h0 : x < 0
        · have hn : shOk whole l = false := shOk_no (fun h => by have := h.2.1 x (List.mem_of_getElem? HX.out); omega)
          have HN := Lib.hid hn; clear hn
          go_wp2
          go_ret
          exact ⟨ret_bool HN.out.symm, (by (repeat (first | with_reducible assumption | with_reducible exact Kp.refl _ | with_reducible refine Kp.drew ?_ | with_reducible refine Kp.drewN ?_ _ | with_reducible refine Kp.alloc ?_ _ | ((with_reducible refine Kp.setCell ?_ ?_ _); rotate_left; (focus (first | omega | (simp; done) | (simp; omega)))) | with_reducible refine Kp.trans ?_ (by assumption))))⟩
        · have d0 : decide (x < 0) = false := decide_eq_false h0
          go_wp2
          go_round
          case rel =>
            refine ⟨k + 1, by omega, by go_num, Lib.hid (fun y hy => ?_)⟩
            rw [take_snocI HX.out] at hy
            rcases List.mem_append.1 hy with hy | hy
            · exact hs.out y hy
            · rw [List.mem_singleton] at hy; subst hy; omega
          case measure => simp [intOf]; omega
    · obtain rfl : k = len := by omega
      have hall := hs.out
      rw [List.take_of_length_le (Nat.le_of_eq HL.out.1)] at hall
      have hr := runs_pos l 0 (by decide) (by decide) hall
      rw [Int.zero_add] at hr
      have cS := CS.out
      rw [hr] at cS
      have HA := Lib.hid hall
      clear hall hr hs CS
      by_cases hm : l.sum ≤ 9223372036854775807
      · rw [if_pos hm] at cS
        have HM := Lib.hid hm
        clear hm
        go_wp2_with fail
        refine cS.mono ?_
        rintro e w1 ⟨rfl, k1⟩
        clear cS
        simp only [Option.getD_some, Option.isSome_some]
        obtain ⟨T, hT⟩ : ∃ T, l.sum = T := ⟨_, rfl⟩
        rw [hT] at HM ⊢
        have HT := Lib.hid hT
        clear hT
        by_cases hw : 0 ≤ whole
        · have j0 : decide (0 ≤ whole) = true := decide_eq_true hw
          by_cases ht : 0 < T
          · have j1 : decide (0 < T) = true := decide_eq_true ht
            have hy : shOk whole l = true := shOk_iff.2 ⟨hw, HA.out, by rw [HT.out]; exact HM.out, by rw [HT.out]; exact ht⟩
            have HY := Lib.hid hy; clear hy
            go_wp2
            go_ret
            exact ⟨ret_bool HY.out.symm, (by (repeat (first | with_reducible assumption | with_reducible exact Kp.refl _ | with_reducible refine Kp.drew ?_ | with_reducible refine Kp.drewN ?_ _ | with_reducible refine Kp.alloc ?_ _ | ((with_reducible refine Kp.setCell ?_ ?_ _); rotate_left; (focus (first | omega | (simp; done) | (simp; omega)))) | with_reducible refine Kp.trans ?_ (by assumption))))⟩
          · have j1 : decide (0 < T) = false := decide_eq_false ht
            have hn : shOk whole l = false := shOk_no (fun h => by rw [HT.out] at h; exact ht h.2.2.2)
            have HN := Lib.hid hn; clear hn
            go_wp2
            go_ret
            exact ⟨ret_bool HN.out.symm, (by (repeat (first | with_reducible assumption | with_reducible exact Kp.refl _ | with_reducible refine Kp.drew ?_ | with_reducible refine Kp.drewN ?_ _ | with_reducible refine Kp.alloc ?_ _ | ((with_reducible refine Kp.setCell ?_ ?_ _); rotate_left; (focus (first | omega | (simp; done) | (simp; omega)))) | with_reducible refine Kp.trans ?_ (by assumption))))⟩
        · have j0 : decide (0 ≤ whole) = false := decide_eq_false hw
          have hn : shOk whole l = false := shOk_no (fun h => hw h.1)
          have HN := Lib.hid hn; clear hn
          go_wp2
          go_ret
          exact ⟨ret_bool HN.out.symm, (by (repeat (first | with_reducible assumption | with_reducible exact Kp.refl _ | with_reducible refine Kp.drew ?_ | with_reducible refine Kp.drewN ?_ _ | with_reducible refine Kp.alloc ?_ _ | ((with_reducible refine Kp.setCell ?_ ?_ _); rotate_left; (focus (first | omega | (simp; done) | (simp; omega)))) | with_reducible refine Kp.trans ?_ (by assumption))))⟩
      · rw [if_neg hm] at cS
        have hn : shOk whole l = false := shOk_no (fun h => hm h.2.2.1)
        have HN := Lib.hid hn; clear hn hm
        go_wp2_with fail
        refine cS.mono ?_
        rintro e w1 ⟨rfl, k1⟩
        clear cS
        simp only [Option.getD_none, Option.isSome_none]
        by_cases hw : 0 ≤ whole
        · have j0 : decide (0 ≤ whole) = true := decide_eq_true hw
          go_wp2
          go_ret
          exact ⟨ret_bool HN.out.symm, (by (repeat (first | with_reducible assumption | with_reducible exact Kp.refl _ | with_reducible refine Kp.drew ?_ | with_reducible refine Kp.drewN ?_ _ | with_reducible refine Kp.alloc ?_ _ | ((with_reducible refine Kp.setCell ?_ ?_ _); rotate_left; (focus (first | omega | (simp; done) | (simp; omega)))) | with_reducible refine Kp.trans ?_ (by assumption))))⟩
        · have j0 : decide (0 ≤ whole) = false := decide_eq_false hw
          go_wp2
          go_ret
          exact ⟨ret_bool HN.out.symm, (by (repeat (first | with_reducible assumption | with_reducible exact Kp.refl _ | with_reducible refine Kp.drew ?_ | with_reducible refine Kp.drewN ?_ _ | with_reducible refine Kp.alloc ?_ _ | ((with_reducible refine Kp.setCell ?_ ?_ _); rotate_left; (focus (first | omega | (simp; done) | (simp; omega)))) | with_reducible refine Kp.trans ?_ (by assumption))))⟩
set_option maxRecDepth 100000 in
set_option maxHeartbeats 1000000 in
theorem refUp8_no (whole n : Int) (a : Option Addr) (len cap : Nat) (l : List Int) (w : World) (hl : SlOk w 1 enc1 a len cap l) (hok : ∀ x, x ∈ l → I64 x) (hs : shOk whole l = false) :
    Calls Try.prog 33 #[.int .i64 whole, .slice a len cap, .int .i64 n] w fun e w' => e = .returned (.agg #[.int .i64 0, .bool false]) ∧ Kp w w' := by
  have cS := fun (w' : World) (k : Kp w w') => refRight8_any whole a len cap l w' (hl.kp k) hok
  rw [hs] at cS
  have CS := Lib.hid cS
  clear hs hok hl cS
  go_enter Try.func33, Try.ntmps33
  go_wp2_with fail
  refine (CS.out _ (by (repeat (first | with_reducible assumption | with_reducible exact Kp.refl _ | with_reducible refine Kp.drew ?_ | with_reducible refine Kp.drewN ?_ _ | with_reducible refine Kp.alloc ?_ _ | ((with_reducible refine Kp.setCell ?_ ?_ _); rotate_left; (focus (first | omega | (simp; done) | (simp; omega)))) | with_reducible refine Kp.trans ?_ (by assumption))))).mono ?_
  rintro e w1 ⟨rfl, k1⟩
  have x6 : Blk w1 w.heap.size (met 0 false) 53 := Blk.kp (by (repeat (first | with_reducible assumption | ((with_reducible refine Blk.newL ?_ ?_); (focus (first | (simp; done) | omega)); rfl) | with_reducible refine Blk.drew ?_ | with_reducible refine Blk.drewN ?_ _ | with_reducible refine Blk.alloc ?_ _ | ((with_reducible refine Blk.other ?_ ?_ _); rotate_left; (focus (first | with_reducible assumption | omega | (simp; done) | (simp; omega))))))) k1
  have f0 := x6.free 0; have f1 := x6.free 1
  have g0 := x6.cell 0 rfl; have g1 := x6.cell 1 rfl
  go_wp2
  refine ret_blk (vs := [.int .i64 0, .bool false]) (Blk.set (Blk.set x6 0 _) 1 _) ?_ rfl ⟨rfl, (by (repeat (first | with_reducible assumption | with_reducible exact Kp.refl _ | with_reducible refine Kp.drew ?_ | with_reducible refine Kp.drewN ?_ _ | with_reducible refine Kp.alloc ?_ _ | ((with_reducible refine Kp.setCell ?_ ?_ _); rotate_left; (focus (first | omega | (simp; done) | (simp; omega)))) | with_reducible refine Kp.trans ?_ (by assumption))))⟩; intro wz bz; have z0 := bz.cell 0 rfl; have z1 := bz.cell 1 rfl; simp [results, Try.results33, go_sem, z0, z1]
set_option maxRecDepth 100000 in
set_option maxHeartbeats 2000000 in
theorem refUp8_any (whole n : Int) (a : Option Addr) (len cap : Nat) (l : List Int) (w : World) (hwb : I64 whole) (hl : SlOk w 1 enc1 a len cap l) (hok : ∀ x, x ∈ l → I64 x) (hs : shOk whole l = true) :
    Calls Try.prog 33 #[.int .i64 whole, .slice a len cap, .int .i64 n] w fun e w' => e = .returned (.agg #[.int .i64 (upAt whole l (clampN n len)), .bool true]) ∧ Kp w w' := by
  have cS := fun (w' : World) (k : Kp w w') => refRight8_any whole a len cap l w' (hl.kp k) hok
  rw [hs] at cS
  have hKl := clampN_le n len
  have hcap := hl.2.1
  have hmx := hl.2.2.1
  unfold maxLen at hmx
  have cT := fun (w' : World) (k : Kp w w') => refSpSum_any a (clampN n len) cap (l.take (clampN n len)) w' ((hl.kp k).take hKl) (fun x hx => hok x (List.mem_of_mem_take hx))
  rw [runs_take hs (clampN n len)] at cT
  have cA := fun (w' : World) (k : Kp w w') => refSpSum_any a len cap l w' (hl.kp k) hok
  have hra := runs_take hs l.length
  rw [List.take_length] at hra
  rw [hra] at cA
  obtain ⟨h0, h1, h2, h3⟩ := shOk_iff.1 hs
  have hst := sum_take h1 (clampN n len)
  have hru := ratio_up hs hwb.2 (clampN n len)
  have cR := fun w => refRatio_any whole (l.take (clampN n len)).sum l.sum w hwb ⟨by omega, by omega⟩ ⟨by omega, by omega⟩
  rw [hru.1] at cR
  simp only [Option.getD_some, Option.isSome_some] at cT cR cA
  have hpos := share_pos hs
  rw [hl.1] at hpos
  obtain ⟨S, hS⟩ : ∃ S, (l.take (clampN n len)).sum = S := ⟨_, rfl⟩
  obtain ⟨T, hT⟩ : ∃ S, l.sum = S := ⟨_, rfl⟩
  obtain ⟨U, hU⟩ : ∃ S, upAt whole l (clampN n len) = S := ⟨_, rfl⟩
  rw [hS] at cT cR
  rw [hT] at cR cA
  rw [hU] at cR ⊢
  have hcl : clampN n len = (max 0 (min n (len : Int))).toNat := by unfold clampN; omega
  rw [hcl] at cT hKl
  have CS := Lib.hid cS
  have CT := Lib.hid cT
  have CR := Lib.hid cR
  have CA := Lib.hid cA
  rcases hl.2.2.2 with e | ⟨b, off, rfl, hb, hrow⟩
  · have := hl.1; rw [e] at this; simp at this; omega
  · clear cS cT cR cA hst hru hs hok hl hrow h1 h2 h3 hS hU hT hcl hra
    go_enter Try.func33, Try.ntmps33
    go_wp2_with fail
    refine (CS.out _ (by (repeat (first | with_reducible assumption | with_reducible exact Kp.refl _ | with_reducible refine Kp.drew ?_ | with_reducible refine Kp.drewN ?_ _ | with_reducible refine Kp.alloc ?_ _ | ((with_reducible refine Kp.setCell ?_ ?_ _); rotate_left; (focus (first | omega | (simp; done) | (simp; omega)))) | with_reducible refine Kp.trans ?_ (by assumption))))).mono ?_
    rintro e w1 ⟨rfl, k1⟩
    have x6 : Blk w1 w.heap.size (met 0 false) 53 := Blk.kp (by (repeat (first | with_reducible assumption | ((with_reducible refine Blk.newL ?_ ?_); (focus (first | (simp; done) | omega)); rfl) | with_reducible refine Blk.drew ?_ | with_reducible refine Blk.drewN ?_ _ | with_reducible refine Blk.alloc ?_ _ | ((with_reducible refine Blk.other ?_ ?_ _); rotate_left; (focus (first | with_reducible assumption | omega | (simp; done) | (simp; omega))))))) k1
    have kw1 : Kp w w1 := ((by (repeat (first | with_reducible assumption | with_reducible exact Kp.refl _ | with_reducible refine Kp.drew ?_ | with_reducible refine Kp.drewN ?_ _ | with_reducible refine Kp.alloc ?_ _ | ((with_reducible refine Kp.setCell ?_ ?_ _); rotate_left; (focus (first | omega | (simp; done) | (simp; omega)))) | with_reducible refine Kp.trans ?_ (by assumption)))) : Kp w _).trans k1
    clear k1
    go_wp2_with fail
    refine (CT.out _ kw1).mono ?_
    rintro e w2 ⟨rfl, k2⟩
    go_wp2
    refine named_world (F := fun W => Blk W w.heap.size (met 0 false) 53 ∧ Blk W w2.heap.size (met S true) 53 ∧ Kp w W) ⟨(x6.kp k2).kp (by (repeat (first | with_reducible assumption | with_reducible exact Kp.refl _ | with_reducible refine Kp.drew ?_ | with_reducible refine Kp.drewN ?_ _ | with_reducible refine Kp.alloc ?_ _ | ((with_reducible refine Kp.setCell ?_ ?_ _); rotate_left; (focus (first | omega | (simp; done) | (simp; omega)))) | with_reducible refine Kp.trans ?_ (by assumption)))), (by (repeat (first | with_reducible assumption | ((with_reducible refine Blk.newL ?_ ?_); (focus (first | (simp; done) | omega)); rfl) | with_reducible refine Blk.drew ?_ | with_reducible refine Blk.drewN ?_ _ | with_reducible refine Blk.alloc ?_ _ | ((with_reducible refine Blk.other ?_ ?_ _); rotate_left; (focus (first | with_reducible assumption | omega | (simp; done) | (simp; omega))))))), (kw1.trans k2).trans (by (repeat (first | with_reducible assumption | with_reducible exact Kp.refl _ | with_reducible refine Kp.drew ?_ | with_reducible refine Kp.drewN ?_ _ | with_reducible refine Kp.alloc ?_ _ | ((with_reducible refine Kp.setCell ?_ ?_ _); rotate_left; (focus (first | omega | (simp; done) | (simp; omega)))) | with_reducible refine Kp.trans ?_ (by assumption))))⟩ ?_
    rintro w3 ⟨y6, y7, kw3⟩
    have c7 := y7.cell 0 rfl
    have n7 := y7.lt
    have hz : w.heap.size < w2.heap.size := by have := (x6.kp k2).lt; exact this
    have fa := field_a1
    have fb := field_a2
    clear x6 kw1 k2 CT CS
    (refine wp_region_held_drew (S := (fun w' => (∃ c0 c1, Blk w' w.heap.size [c0, c1] 53) ∧ w'.cell? ⟨w2.heap.size, 0, none⟩ = some (.int .i64 S) ∧ Kp w w')) (by kernel_rfl) ?_ (fun hHd => ?_); (focus ((try dsimp only); exact ⟨⟨_, _, y6.drew⟩, c7, kw3.drew⟩)))
    (refine takeH (i := 0) (oi := ?o1) (v := ?v1) ?h1 (by kernel_rfl) ?q1 (Or.inl ⟨?w1, ?y1⟩) (by assumption) ?r1; (case h1 => ((simp only [g1, g3]); rfl)); (case q1 => exact fun _ _ _ h => h); (case w1 => rfl); (case y1 => (intro w' hSw; (try dsimp only at hSw); go_simp; (try with_reducible rfl))); (try simp only [Act.put, s1, s2, s3]))
    (refine takeH (i := 1) (oi := ?o2) (v := ?v2) ?h2 (by kernel_rfl) ?q2 (Or.inl ⟨?w2, ?y2⟩) (by assumption) ?r2; (case h2 => ((simp only [g1, g2, g3]); rfl)); (case q2 => exact fun _ _ _ h => h); (case w2 => rfl); (case y2 => (intro w' hSw; (try dsimp only at hSw); go_simp; (try with_reducible rfl))); (try simp only [Act.put, s1, s2, s3]))
    (refine takeH (i := 2) (oi := ?o3) (v := ?v3) ?h3 (by kernel_rfl) ?q3 (Or.inl ⟨?w3, ?y3⟩) (by assumption) ?r3; (case h3 => ((simp only [g1, g2, g3]); rfl)); (case q3 => exact fun _ _ _ h => h); (case w3 => rfl); (case y3 => (intro w' hSw; (try dsimp only at hSw); go_simp; (try with_reducible rfl))); (try simp only [Act.put, s1, s2, s3]))
    (refine takeH (i := 3) (oi := ?o4) (v := ?v4) ?h4 (by kernel_rfl) ?q4 (Or.inl ⟨?w4, ?y4⟩) (by assumption) ?r4; (case h4 => ((simp only [g1, g2, g3]); rfl)); (case q4 => exact fun _ _ _ h => h); (case w4 => rfl); (case y4 => (intro w' hSw; (try dsimp only at hSw); go_simp; (try with_reducible rfl))); (try simp only [Act.put, s1, s2, s3]))
    (refine wpAnyH_ready (rs := [4]) (by kernel_rfl) (by simp) ?_; refine AllReadyH.cons (o := ?o5) ?h5 (fun K hK => ?s5) AllReadyH.nil; (case h5 => (first | ((simp only [g1, g2, g3]); rfl) | rfl)); go_simp; (first | (go_at_call 26; go_must (refine (CA.out _ hHd.2.2).mono ?_); rintro e w5 ⟨rfl, kk⟩) | (go_at_call 27; go_must (refine (CR.out _).mono ?_); rintro e w5 ⟨rfl, kk⟩)); (try dsimp only); refine hK.out _ _ ?_ (fun hHd => ?_); (focus ((try dsimp only); exact ⟨⟨_, _, hHd.1.choose_spec.choose_spec.kp kk⟩, Kp.ck (K := fun _ => True) kk _ _ trivial hHd.2.1, hHd.2.2.trans kk⟩)); clear hK K; (try simp only [Act.put, s1, s2, s3]))
    (refine takeH (i := 5) (oi := ?o6) (v := ?v6) ?h6 (by kernel_rfl) ?q6 (Or.inl ⟨?w6, ?y6⟩) (by assumption) ?r6; (case h6 => ((simp only [g1, g2, g3]); rfl)); (case q6 => exact fun _ _ _ h => h); (case w6 => rfl); (case y6 => (intro w' hSw; (try dsimp only at hSw); go_simp; (try with_reducible rfl))); (try simp only [Act.put, s1, s2, s3]))
    (refine wpAnyH_ready (rs := [6]) (by kernel_rfl) (by simp) ?_; refine AllReadyH.cons (o := ?o7) ?h7 (fun K hK => ?s7) AllReadyH.nil; (case h7 => (first | ((simp only [g1, g2, g3]); rfl) | rfl)); go_simp; (first | (go_at_call 26; go_must (refine (CA.out _ hHd.2.2).mono ?_); rintro e w5 ⟨rfl, kk⟩) | (go_at_call 27; go_must (refine (CR.out _).mono ?_); rintro e w5 ⟨rfl, kk⟩)); (try dsimp only); refine hK.out _ _ ?_ (fun hHd => ?_); (focus ((try dsimp only); exact ⟨⟨_, _, hHd.1.choose_spec.choose_spec.kp kk⟩, Kp.ck (K := fun _ => True) kk _ _ trivial hHd.2.1, hHd.2.2.trans kk⟩)); clear hK K; (try simp only [Act.put, s1, s2, s3]))
    (refine takeH (i := 7) (oi := ?o8) (v := ?v8) ?h8 (by kernel_rfl) ?q8 (Or.inl ⟨?w8, ?y8⟩) (by assumption) ?r8; (case h8 => ((simp only [g1, g2, g3]); rfl)); (case q8 => exact fun _ _ _ h => h); (case w8 => rfl); (case y8 => (intro w' hSw; (try dsimp only at hSw); go_simp; (try with_reducible rfl))); (try simp only [Act.put, s1, s2, s3]))
    (refine takeH (i := 8) (oi := ?o9) (v := ?v9) ?h9 (by kernel_rfl) ?q9 (Or.inl ⟨?w9, ?y9⟩) (by assumption) ?r9; (case h9 => ((simp only [g1, g2, g3]); rfl)); (case q9 => exact fun _ _ _ h => h); (case w9 => rfl); (case y9 => (intro w' hSw; (try dsimp only at hSw); go_simp; (try with_reducible rfl))); (try simp only [Act.put, s1, s2, s3]))
    (refine wpAnyH_ready (rs := [9]) (by kernel_rfl) (by simp) ?_; refine AllReadyH.cons (o := ?o10) ?h10 (fun K hK => ?s10) AllReadyH.nil; (case h10 => (first | ((simp only [g1, g2, g3]); rfl) | rfl)); (rw [if_pos (by rfl)]; obtain ⟨q0, q1, hB⟩ := hHd.1; have hC7 := hHd.2.1; have hK7 := hHd.2.2; have f0 := hB.free 0; have f1 := hB.free 1; have g0' := hB.cell 0 rfl; have g1' := hB.cell 1 rfl; go_simp; (try dsimp only)); refine hK.out _ _ ?_ (fun hHd => ?_); (focus ((try dsimp only); exact ⟨⟨_, _, (hB.set 0 _).set 1 _⟩, (cell_heap (Below.heap_setCell _ _ _ _ (by show w2.heap.size ≠ w.heap.size; omega))).trans ((cell_heap (Below.heap_setCell _ _ _ _ (by show w2.heap.size ≠ w.heap.size; omega))).trans (by assumption)), (by (repeat (first | with_reducible assumption | with_reducible exact Kp.refl _ | with_reducible refine Kp.drew ?_ | with_reducible refine Kp.drewN ?_ _ | with_reducible refine Kp.alloc ?_ _ | ((with_reducible refine Kp.setCell ?_ ?_ _); rotate_left; (focus (first | omega | (simp; done) | (simp; omega)))) | with_reducible refine Kp.trans ?_ (by assumption))))⟩)); clear hK K; (try simp only [Act.put]))
    refine wpAnyH_done (by kernel_rfl) ?_ _
    go_wp2
    refine ret_blk (vs := [.int .i64 U, .bool true]) (Blk.set (Blk.set hB 0 _) 1 _) ?_ rfl ⟨rfl, (by (repeat (first | with_reducible assumption | with_reducible exact Kp.refl _ | with_reducible refine Kp.drew ?_ | with_reducible refine Kp.drewN ?_ _ | with_reducible refine Kp.alloc ?_ _ | ((with_reducible refine Kp.setCell ?_ ?_ _); rotate_left; (focus (first | omega | (simp; done) | (simp; omega)))) | with_reducible refine Kp.trans ?_ (by assumption))))⟩; intro wz bz; have z0 := bz.cell 0 rfl; have z1 := bz.cell 1 rfl; simp [results, Try.results33, go_sem, z0, z1]
theorem refAll8_no (whole : Int) (a : Option Addr) (len cap : Nat) (l : List Int) (w : World) (hl : SlOk w 1 enc1 a len cap l) (hok : ∀ x, x ∈ l → I64 x) (hs : shOk whole l = false) :
    Calls Try.prog 31 #[.int .i64 whole, .slice a len cap] w fun e w' => e = .returned (.slice none 0 0) ∧ Kp w w' := by
  have cS := refRight8_any whole a len cap l w hl hok
  rw [hs] at cS
  clear hs hok hl
  go_enter Try.func31, Try.ntmps31
  go_wp2_with fail
  refine cS.mono ?_
  rintro e w1 ⟨rfl, k1⟩
  go_wp2
  go_ret
  exact ⟨rfl, k1⟩
set_option maxRecDepth 100000 in
set_option maxHeartbeats 2000000 in
theorem refAll8_any (whole : Int) (a : Option Addr) (len cap : Nat) (l : List Int) (w : World) (hwb : I64 whole) (hl : SlOk w 1 enc1 a len cap l) (hok : ∀ x, x ∈ l → I64 x) (h5 : l.length ≤ 5000) (hs : shOk whole l = true) :
    Calls Try.prog 31 #[.int .i64 whole, .slice a len cap] w fun e w' => ∃ v, e = .returned v ∧ Row w' w.heap.size 28 1 enc1 v (shares whole l) ∧ Kp w w' := by
  have cS := refRight8_any whole a len cap l w hl hok
  rw [hs] at cS
  have hll := hl.1
  have cU := fun (k : Nat) (hk : k ≤ len) (w' : World) (kk : Kp w w') => refUp8_any whole (k : Int) a len cap l w' hwb (hl.kp kk) hok hs
  have hck : ∀ k, k ≤ len → clampN (k : Int) len = k := fun k hk => by unfold clampN; omega
  have CU : Hid (∀ (k : Nat) (hk : k ≤ len) (w' : World), Kp w w' → Calls Try.prog 33 #[.int .i64 whole, .slice a len cap, .int .i64 (k : Int)] w' fun e w'' => e = .returned (.agg #[.int .i64 (upAt whole l k), .bool true]) ∧ Kp w' w'') := Lib.hid (fun k hk w' kk => by
    have h := cU k hk w' kk
    rw [hck k hk] at h; exact h)
  have HS := Lib.hid hs
  have HWB := Lib.hid hwb
  have hcap := hl.2.1
  have hmx := hl.2.2.1
  unfold maxLen at hmx
  have fa := field_a1
  have HLL := Lib.hid hll
  clear cU hck hs hwb hok hl hll
  go_enter Try.func31, Try.ntmps31
  go_wp2_with fail
  refine cS.mono ?_
  rintro e w1 ⟨rfl, k1⟩
  clear cS
  go_wp2
  go_loopw [5, 6] (fun v5 v6 wr => ∃ k : Nat, k ≤ len ∧ v6 = .int .i64 k ∧ Row wr w.heap.size 28 1 enc1 v5 ((shares whole l).take k) ∧ Kp w wr) (fun _ v6 _ => len - (intOf v6).toNat)
  case atStart => exact ⟨0, Nat.zero_le _, rfl, by rw [List.take_zero]; exact Row.nil _ _ _ _ _, k1⟩
  case round =>
    clear k1
    obtain ⟨k, hk, rfl, xr, xk⟩ := hrel
    by_cases hlt : k < len
    · have hst := shares_take (whole := whole) (l := l) (k := k) (by have := HLL.out; omega)
      have HST := Lib.hid hst
      have hu0 := ratio_up HS.out HWB.out.2 k
      have hu1 := ratio_up HS.out HWB.out.2 (k + 1)
      have hmo := upAt_mono HS.out k
      have hwb2 := HWB.out.2
      have hlen : ((shares whole l).take k).length + 1 ≤ 5001 := by rw [List.length_take, shares_length]; omega
      have c1 := CU.out (k + 1) (by omega) wr xk
      have c0 := fun w' kk => CU.out k hk w' kk
      unfold shareAt at HST
      obtain ⟨U, hU⟩ : ∃ U, upAt whole l k = U := ⟨_, rfl⟩
      obtain ⟨V, hV⟩ : ∃ U, upAt whole l (k + 1) = U := ⟨_, rfl⟩
      rw [hU] at c0 hu0 hmo HST
      rw [hV] at c1 hu1 hmo HST
      obtain ⟨_, u0, u1⟩ := hu0
      obtain ⟨_, v0, v1⟩ := hu1
      have hkc : (((k + 1 : Nat) : Int)) = (k : Int) + 1 := by push_cast; rfl
      rw [hkc] at c1
      have C0 := Lib.hid c0
      clear hst hU hV c0 hkc
      go_wp2_with fail
      refine c1.mono ?_
      rintro e w2 ⟨rfl, k2⟩
      go_wp2_with fail
      refine (C0.out _ (xk.trans k2)).mono ?_
      rintro e w3 ⟨rfl, k3⟩
      have xr3 := (xr.kp k2).kp k3
      have xk3 := (xk.trans k2).trans k3
      have hz3 := xk3.size
      clear c1 C0 k2 k3 xr xk
      go_wp2_with (first
        | (refine rowAppend ?gd (.tmp 17) (.tmp 30) 49 ?ho Try.underlying49 infoSp rfl (by decide) (xr3.alloc (.cells #[.int .i64 (V - U)] 28)) ?hs (y := V - U) rfl ?h1 (Blk.new _ _ 28) ?hx ?hl ?hb ?hz ?_; (case gd => rfl); (case ho => rfl); (case hs => rfl); (case h1 => simp [enc1, Value.oneCell']); (case hx => rfl); (case hl => unfold maxLen; omega); (case hb => omega); (case hz => simp; omega))
        | fail)
      intro v' w4 hr4 kp4 oth4 sz4 hne
      have k4 := kp4 (Nat.le_refl _) (xk3.alloc _)
      rw [← HST.out] at hr4
      go_wp2
      go_roundw
      case rel => exact ⟨k + 1, by omega, by go_num, hr4, k4⟩
      case measure => simp [intOf]; omega
    · obtain rfl : k = len := by omega
      have j1 : decide ((k : Int) < (k : Int)) = false := decide_eq_false (by omega)
      have hta : (shares whole l).take k = shares whole l := List.take_of_length_le (by rw [shares_length]; have := HLL.out; omega)
      rw [hta] at xr
      clear hta
      go_wp2
      go_ret
      exact ⟨_, rfl, xr, xk⟩
end Go.Proofs.Yteipfamaclildaa
