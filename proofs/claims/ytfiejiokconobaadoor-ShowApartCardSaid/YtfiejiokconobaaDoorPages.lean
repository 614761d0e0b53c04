/- Pages as a text: the program's. -/
import Derived.Test.YtfiejiokconobaaDoorText

import Derived.Test.YtfiejiokconobaaDoorPutc

namespace Go.Proofs.YtfiejiokconobaaDoor

open Go.RowKit

theorem ne_of_sizes {a b : Nat} (h : a < b) : b ≠ a := by omega
set_option maxRecDepth 100000 in
set_option maxHeartbeats 4000000 in
theorem showPages_any (a : Option Addr) (cap : Nat) (l : List Page) (w : World) (he : Env w) (hl : SlOk w 4 Page.cells a l.length cap l) (hg : ∀ y, y ∈ l → y.good w) (hs : Small l) :
    Calls Tryd.prog 8 #[.slice a l.length cap] w fun e w' => e = .returned (sv (pagesN l l.length)) ∧ Kp w w' := by
  have HE := Lib.hid he
  have HL := Lib.hid hl
  have HG := Lib.hid hg
  have HS := Lib.hid hs
  have HP := Lib.hid (pagesN_short hs (fun p hp => (hg p hp).num))
  have hl40 := hs.pages
  have hcl := hl.2.1
  have hcm := hl.2.2.1
  unfold maxLen at hcm
  clear he hl hg hs
  go_enter Tryd.func8, Tryd.ntmps8
  go_wp2_with fail
  go_loopw [14] (fun v14 wr => ∃ (k : Nat), k ≤ l.length ∧ v14 = .int .i64 k ∧ Bld w.heap.size w.heap.size (pagesN l k) wr ∧ Kp w wr) (fun v14 _ => l.length - (intOf v14).toNat)
  case atStart => exact ⟨0, Nat.zero_le _, rfl, Bld.new w, (by (repeat (first | with_reducible assumption | with_reducible exact Kp.refl _ | with_reducible refine Kp.drew ?_ | with_reducible refine Kp.drewN ?_ _ | with_reducible refine Kp.alloc ?_ _ | ((with_reducible refine Kp.setCell ?_ ?_ _); rotate_left; (focus (first | omega | (simp; done) | (simp; omega)))) | with_reducible refine Kp.trans ?_ (by assumption))))⟩
  case round =>
    obtain ⟨k, hk, rfl, xb, xk⟩ := hrel
    have hb := xb.lt
    by_cases hlt : k < l.length
    · have hT := HP.out k hk
      obtain ⟨x, hx⟩ : ∃ x, l[k]? = some x := ⟨l[k]'hlt, List.getElem?_eq_getElem _⟩
      have hsn := pagesN_succ hx
      have hmem := List.mem_of_getElem? hx
      have hgx := HG.out x hmem
      have hnum := hgx.num
      have hH := pageH_short k (by omega) x hnum
      have hlan := HS.out.lanes x hmem
      have hput := HS.out.puts x hmem
      obtain ⟨T, hTe⟩ : ∃ T, pagesN l k = T := ⟨_, rfl⟩
      rw [hTe] at xb hT hsn
      have tl := HL.out.kp xk
      rcases tl.2.2.2 with e | ⟨ga, oa, rfl, hga, r1⟩
      · rw [e] at hlt; simp at hlt
      obtain ⟨⟨la, ll, lc, ls⟩, pt, pf, pl⟩ := x
      have d0 := r1 k _ hx 0 _ rfl
      have d1 := r1 k _ hx 1 _ rfl
      have d2 := r1 k _ hx 2 _ rfl
      have d3 := r1 k _ hx 3 _ rfl
      simp only [Nat.add_zero] at d0 d1 d2 d3
      have j1 : decide ((k : Int) < (l.length : Int)) = true := decide_eq_true (by omega)
      have XB := Lib.hid xb
      have HSN := Lib.hid hsn
      have HGX := Lib.hid hgx
      have HI : Hid (∀ x, x ∈ [(k : Int), pt, pf, pl] → I64 x) := Lib.hid (by
        obtain ⟨p1, p2, p3, _⟩ := hnum
        simp only at p1 p2 p3
        intro x hx
        simp only [List.mem_cons, List.not_mem_nil, or_false] at hx
        rcases hx with rfl | rfl | rfl | rfl
        · unfold I64; omega
        · assumption
        · assumption
        · assumption)
      clear tl r1 hx hsn xb hgx hTe
      go_wp2_with fail
      refine (line_any _ _ [112, 97, 103, 101] [(k : Int), pt, pf, pl] _ (HE.out.kp (by (repeat (first | with_reducible assumption | with_reducible exact Kp.refl _ | with_reducible refine Kp.drew ?_ | with_reducible refine Kp.drewN ?_ _ | with_reducible refine Kp.alloc ?_ _ | ((with_reducible refine Kp.setCell ?_ ?_ _); rotate_left; (focus (first | omega | (simp; done) | (simp; omega)))) | with_reducible refine Kp.trans ?_ (by assumption))))) (sl_blk (t := 2) (by (repeat (first | with_reducible assumption | ((with_reducible refine Blk.newL ?_ ?_); (focus (first | (simp; done) | omega)); rfl) | with_reducible refine Blk.drew ?_ | with_reducible refine Blk.drewN ?_ _ | with_reducible refine Blk.alloc ?_ _ | ((with_reducible refine Blk.other ?_ ?_ _); rotate_left; (focus (first | with_reducible assumption | omega | (simp; done) | (simp; omega))))))) (by simp)) HI.out (by simp) (by simp)).mono ?_
      rintro e w1 ⟨rfl, k1⟩
      have bp : Blk w1 wr.heap.size [.slice la ll lc, .int .i64 pt, .int .i64 pf, .int .i64 pl] 39 := Blk.kp (by (repeat (first | with_reducible assumption | ((with_reducible refine Blk.newL ?_ ?_); (focus (first | (simp; done) | omega)); rfl) | with_reducible refine Blk.drew ?_ | with_reducible refine Blk.drewN ?_ _ | with_reducible refine Blk.alloc ?_ _ | ((with_reducible refine Blk.other ?_ ?_ _); rotate_left; (focus (first | with_reducible assumption | omega | (simp; done) | (simp; omega))))))) k1
      have kw1 : Kp wr w1 := Kp.trans (by (repeat (first | with_reducible assumption | with_reducible exact Kp.refl _ | with_reducible refine Kp.drew ?_ | with_reducible refine Kp.drewN ?_ _ | with_reducible refine Kp.alloc ?_ _ | ((with_reducible refine Kp.setCell ?_ ?_ _); rotate_left; (focus (first | omega | (simp; done) | (simp; omega)))) | with_reducible refine Kp.trans ?_ (by assumption)))) k1
      have xb1 := XB.out.kp kw1
      clear k1
      go_wp2_with fail
      refine (putc_any _ _ _ _ _ xb1 (by
        unfold pageH at hH; rw [List.length_append, List.length_singleton] at hH; simp only at hH; omega)).mono ?_
      rintro e w2 ⟨⟨v2, rfl⟩, h2, b2⟩
      have bp2 := bp.wr (by decide) (ne_of_sizes hb) b2
      have xk2 : Kp w w2 := b2.kp (xk.trans kw1) (Nat.le_refl _)
      have hw2 : wr.heap.size < w2.heap.size := bp2.lt
      have c0 := bp2.cell 0 rfl
      rw [show T ++ lineL [112, 97, 103, 101] [(k : Int), pt, pf, pl] ++ [10] = T ++ pageH k ⟨⟨la, ll, lc, ls⟩, pt, pf, pl⟩ by unfold pageH; simp] at h2
      obtain ⟨T2, hT2⟩ : ∃ T2, T ++ pageH k ⟨⟨la, ll, lc, ls⟩, pt, pf, pl⟩ = T2 := ⟨_, rfl⟩
      have hT2l : T2.length ≤ 20000100 := by rw [← hT2, List.length_append]; omega
      rw [hT2] at h2
      go_wp2_with fail
      go_loopw [33] (fun v33 wr' => ∃ (m : Nat), m ≤ ls.length ∧ v33 = .int .i64 m ∧ Bld w.heap.size w.heap.size (T2 ++ (ls.take m).flatMap laneL) wr' ∧ Kp w wr') (fun v33 _ => ls.length - (intOf v33).toNat)
      case atStart => exact ⟨0, Nat.zero_le _, rfl, by simpa using h2, xk2⟩
      case round =>
        clear h2 xk2 bp2 hw2 c0 b2 kw1 xb1 bp
        obtain ⟨m, hm, rfl, yb, yk⟩ := hrel
        have hb2 := yb.lt
        have hF := flat_bound (C := 20200) (f := laneL) (l := ls.take m) fun z hz => laneL_short z (hnum.2.2.2 z (List.mem_of_mem_take hz)) (hput z (List.mem_of_mem_take hz))
        have hF2 : ((ls.take m).flatMap laneL).length ≤ 404000 := by
          rw [List.length_take] at hF
          (try simp only at hlan)
          have : min m ls.length ≤ 20 := by omega
          omega
        clear hF
        obtain ⟨T3, hT3⟩ : ∃ T3, T2 ++ (ls.take m).flatMap laneL = T3 := ⟨_, rfl⟩
        have hT3l : T3.length ≤ 20404100 := by rw [← hT3, List.length_append]; omega
        rw [hT3] at yb
        by_cases hlt2 : m < ls.length
        · obtain ⟨y, hy⟩ : ∃ y, ls[m]? = some y := ⟨ls[m]'hlt2, List.getElem?_eq_getElem _⟩
          have hymem := List.mem_of_getElem? hy
          have hs3 := flat_snoc (f := laneL) hy
          have hsl := HGX.out.2.2.2.1.kp yk
          have hgy := HGX.out.2.2.2.2 y hymem
          have hny := hnum.2.2.2 y hymem
          have hyp := hput y hymem
          have hLH := laneH_short y hny
          simp only at hsl
          have hlen3 := hsl.1
          subst hlen3
          rcases hsl.2.2.2 with e | ⟨gb, ob, rfl, hgb, r2⟩
          · rw [e] at hlt2; simp at hlt2
          obtain ⟨yx, ⟨qa, ql, qc, qs⟩⟩ := y
          have f0 := r2 m _ hy 0 _ rfl
          have f1 := r2 m _ hy 1 _ rfl
          simp only [Nat.add_zero] at f0 f1
          have j2 : decide ((m : Int) < (ls.length : Int)) = true := decide_eq_true (by omega)
          have YB := Lib.hid yb
          have HS3 := Lib.hid hs3
          have HGY := Lib.hid hgy
          have HI2 : Hid (∀ x, x ∈ [yx] → I64 x) := Lib.hid (by
            intro x hx
            simp only [List.mem_cons, List.not_mem_nil, or_false] at hx
            subst hx
            exact hny.1)
          clear hsl r2 hy hs3 yb hgy
          go_wp2_with fail
          refine (line_any _ _ [108, 97, 110, 101] [yx] _ (HE.out.kp (by (repeat (first | with_reducible assumption | with_reducible exact Kp.refl _ | with_reducible refine Kp.drew ?_ | with_reducible refine Kp.drewN ?_ _ | with_reducible refine Kp.alloc ?_ _ | ((with_reducible refine Kp.setCell ?_ ?_ _); rotate_left; (focus (first | omega | (simp; done) | (simp; omega)))) | with_reducible refine Kp.trans ?_ (by assumption))))) (sl_blk (t := 2) (by (repeat (first | with_reducible assumption | ((with_reducible refine Blk.newL ?_ ?_); (focus (first | (simp; done) | omega)); rfl) | with_reducible refine Blk.drew ?_ | with_reducible refine Blk.drewN ?_ _ | with_reducible refine Blk.alloc ?_ _ | ((with_reducible refine Blk.other ?_ ?_ _); rotate_left; (focus (first | with_reducible assumption | omega | (simp; done) | (simp; omega))))))) (by simp)) HI2.out (by simp) (by simp)).mono ?_
          rintro e w3 ⟨rfl, k3⟩
          have bq : Blk w3 wr.heap.size [.int .i64 yx, .slice qa ql qc] 41 := Blk.kp (by (repeat (first | with_reducible assumption | ((with_reducible refine Blk.newL ?_ ?_); (focus (first | (simp; done) | omega)); rfl) | with_reducible refine Blk.drew ?_ | with_reducible refine Blk.drewN ?_ _ | with_reducible refine Blk.alloc ?_ _ | ((with_reducible refine Blk.other ?_ ?_ _); rotate_left; (focus (first | with_reducible assumption | omega | (simp; done) | (simp; omega))))))) k3
          have kw3 : Kp wr w3 := Kp.trans (by (repeat (first | with_reducible assumption | with_reducible exact Kp.refl _ | with_reducible refine Kp.drew ?_ | with_reducible refine Kp.drewN ?_ _ | with_reducible refine Kp.alloc ?_ _ | ((with_reducible refine Kp.setCell ?_ ?_ _); rotate_left; (focus (first | omega | (simp; done) | (simp; omega)))) | with_reducible refine Kp.trans ?_ (by assumption)))) k3
          have yb1 := YB.out.kp kw3
          clear k3
          go_wp2_with fail
          refine (putc_any _ _ _ _ _ yb1 (by
            unfold laneH at hLH; rw [List.length_append, List.length_singleton] at hLH; simp only at hLH; omega)).mono ?_
          rintro e w4 ⟨⟨v4, rfl⟩, h4, b4⟩
          have bq2 := bq.wr (by decide) (ne_of_sizes hb2) b4
          have yk2 : Kp w w4 := b4.kp (yk.trans kw3) (Nat.le_refl _)
          have hw4 : wr.heap.size < w4.heap.size := bq2.lt
          have g0' := bq2.cell 1 rfl
          rw [show T3 ++ lineL [108, 97, 110, 101] [yx] ++ [10] = T3 ++ laneH ⟨yx, ⟨qa, ql, qc, qs⟩⟩ by unfold laneH; simp] at h4
          obtain ⟨T4, hT4⟩ : ∃ T4, T3 ++ laneH ⟨yx, ⟨qa, ql, qc, qs⟩⟩ = T4 := ⟨_, rfl⟩
          have hT4l : T4.length ≤ 20404200 := by rw [← hT4, List.length_append]; omega
          rw [hT4] at h4
          go_wp2_with fail
          go_loopw [46] (fun v46 wr' => ∃ (q : Nat), q ≤ qs.length ∧ v46 = .int .i64 q ∧ Bld w.heap.size w.heap.size (T4 ++ (qs.take q).flatMap putN) wr' ∧ Kp w wr') (fun v46 _ => qs.length - (intOf v46).toNat)
          case atStart => exact ⟨0, Nat.zero_le _, rfl, by simpa using h4, yk2⟩
          case round =>
            clear h4 yk2 bq2 hw4 g0' b4 kw3 yb1 bq
            obtain ⟨q, hq, rfl, zb, zk⟩ := hrel
            have hb3 := zb.lt
            have hF := flat_bound (C := 201) (f := putN) (l := qs.take q) fun z hz => putN_short z (hny.2 z (List.mem_of_mem_take hz))
            have hF3 : ((qs.take q).flatMap putN).length ≤ 20100 := by
              rw [List.length_take] at hF
              (try simp only at hyp)
              have : min q qs.length ≤ 100 := by omega
              omega
            clear hF
            obtain ⟨T5, hT5⟩ : ∃ T5, T4 ++ (qs.take q).flatMap putN = T5 := ⟨_, rfl⟩
            have hT5l : T5.length ≤ 20424300 := by rw [← hT5, List.length_append]; omega
            rw [hT5] at zb
            have hzl := HGY.out.2.1.kp zk
            simp only at hzl
            have hlen4 := hzl.1
            subst hlen4
            by_cases hlt3 : q < qs.length
            · obtain ⟨z, hz⟩ : ∃ z, qs[q]? = some z := ⟨qs[q]'hlt3, List.getElem?_eq_getElem _⟩
              have hzmem := List.mem_of_getElem? hz
              have hs5 := flat_snoc (f := putN) hz
              have hzok := hny.2 z hzmem
              have hzs := putL_short z hzok
              rcases hzl.2.2.2 with e | ⟨gc, oc, rfl, hgc, r3⟩
              · rw [e] at hlt3; simp at hlt3
              have PP := Lib.hid (put_any z hzok)
              obtain ⟨z0, z1, z2, z3, z4⟩ := z
              have e0 := r3 q _ hz 0 _ rfl
              have e1 := r3 q _ hz 1 _ rfl
              have e2 := r3 q _ hz 2 _ rfl
              have e3 := r3 q _ hz 3 _ rfl
              have e4 := r3 q _ hz 4 _ rfl
              simp only [Nat.add_zero] at e0 e1 e2 e3 e4
              have j3 : decide ((q : Int) < (qs.length : Int)) = true := decide_eq_true (by omega)
              have ZB := Lib.hid zb
              have HS5 := Lib.hid hs5
              obtain ⟨U, hU⟩ : ∃ U, putL ⟨z0, z1, z2, z3, z4⟩ = U := ⟨_, rfl⟩
              have HU : Hid (putN ⟨z0, z1, z2, z3, z4⟩ = U ++ [10]) := Lib.hid (by unfold putN; rw [hU])
              rw [hU] at PP hzs
              simp only at PP
              clear hzl r3 hz hs5 zb hzok
              go_wp2_with fail
              refine (PP.out _ (HE.out.kp (by (repeat (first | with_reducible assumption | with_reducible exact Kp.refl _ | with_reducible refine Kp.drew ?_ | with_reducible refine Kp.drewN ?_ _ | with_reducible refine Kp.alloc ?_ _ | ((with_reducible refine Kp.setCell ?_ ?_ _); rotate_left; (focus (first | omega | (simp; done) | (simp; omega)))) | with_reducible refine Kp.trans ?_ (by assumption)))))).mono ?_
              rintro e w5 ⟨rfl, k5⟩
              have kw5 : Kp wr w5 := Kp.trans (by (repeat (first | with_reducible assumption | with_reducible exact Kp.refl _ | with_reducible refine Kp.drew ?_ | with_reducible refine Kp.drewN ?_ _ | with_reducible refine Kp.alloc ?_ _ | ((with_reducible refine Kp.setCell ?_ ?_ _); rotate_left; (focus (first | omega | (simp; done) | (simp; omega)))) | with_reducible refine Kp.trans ?_ (by assumption)))) k5
              have zb1 := ZB.out.kp kw5
              clear k5
              go_wp2_with fail
              refine (putc_any _ _ _ _ _ zb1 (by omega)).mono ?_
              rintro e w6 ⟨⟨v6, rfl⟩, h6, b6⟩
              have zk2 : Kp w w6 := b6.kp (zk.trans kw5) (Nat.le_refl _)
              go_wp2_with fail
              go_roundw
              case rel => exact ⟨q + 1, by omega, by go_num, by rw [HS5.out, HU.out, ← List.append_assoc, ← List.append_assoc, hT5]; exact h6, zk2⟩
              case measure => simp [intOf]; omega
            · obtain rfl : q = qs.length := by omega
              have j3 : decide ((qs.length : Int) < (qs.length : Int)) = false := decide_eq_false (by omega)
              rw [List.take_length] at hT5
              have hend : T2 ++ (ls.take (m + 1)).flatMap laneL = T5 := by
                rw [HS3.out, ← List.append_assoc, hT3]
                unfold laneL
                rw [← List.append_assoc, hT4]; exact hT5
              have HEND := Lib.hid hend
              clear hend hzl
              go_wp2_with fail
              go_roundw
              case rel => exact ⟨m + 1, by omega, by go_num, by rw [HEND.out]; exact zb, zk⟩
              case measure => simp [intOf]; omega
        · have hsl := HGX.out.2.2.2.1.1
          simp only at hsl
          subst hsl
          obtain rfl : m = ls.length := by omega
          have j2 : decide ((ls.length : Int) < (ls.length : Int)) = false := decide_eq_false (by omega)
          rw [List.take_length] at hT3
          have hend : pagesN l (k + 1) = T3 := by
            rw [HSN.out]
            unfold pageL
            rw [← List.append_assoc, hT2]; exact hT3
          have HEND := Lib.hid hend
          clear hend
          go_wp2_with fail
          go_roundw
          case rel => exact ⟨k + 1, by omega, by go_num, by rw [HEND.out]; exact yb, yk⟩
          case measure => simp [intOf]; omega
    · obtain rfl : k = l.length := by omega
      have j1 : decide ((l.length : Int) < (l.length : Int)) = false := decide_eq_false (by omega)
      obtain ⟨T, hTe⟩ : ∃ T, pagesN l l.length = T := ⟨_, rfl⟩
      rw [hTe] at xb
      go_wp2_with fail
      refine (getString _ _ _ _ xb).mono ?_
      rintro e w2 ⟨rfl, b2⟩
      have k2 : Kp w w2 := Below.trans xk b2
      clear b2
      go_wp2_with fail
      go_ret
      exact ⟨by rw [hTe]; rfl, k2⟩
end Go.Proofs.YtfiejiokconobaaDoor
