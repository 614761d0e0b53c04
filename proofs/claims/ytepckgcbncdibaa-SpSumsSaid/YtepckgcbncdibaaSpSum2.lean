/- The law SpSums: the walk. -/
import Derived.Test.YtepckgcbncdibaaSpSums
import Derived.IntWalk
namespace Go.Proofs.Ytepckgcbncdibaa
open Go.ChangeShapes Go.WideShapes Go.ChangeAt Go.RowKit

set_option maxRecDepth 100000 in
set_option maxHeartbeats 1000000 in
theorem refSpSum_any (a : Option Addr) (len cap : Nat) (l : List Int) (w : World) (hl : SlOk w 1 enc1 a len cap l) (hok : ∀ x, x ∈ l → I64 x) :
    Calls Try.prog 42 #[.slice a len cap] w
      fun e w' => e = .returned (.agg #[.int .i64 ((runs 0 l).getD 0), .bool (runs 0 l).isSome]) ∧ Kp w w' := by
  have hm := hl.2.2.1
  have hc := hl.2.1
  unfold maxLen at hm
  have HO := Lib.hid hok; clear hok
  go_enter Try.func42, Try.ntmps42
  go_wp2
  go_loopw [4] (fun v4 wr => ∃ (k : Nat) (s : Int) (o : Bool), k ≤ len ∧ v4 = .int .i64 k ∧ Blk wr w.heap.size (met 0 false) 47 ∧ Blk wr (w.heap.size + 1) (met s o) 47 ∧ Kp w wr ∧ Hid (o = (runs 0 (l.take k)).isSome ∧ (runs 0 (l.take k)).getD 0 = s)) (fun v4 _ => len - (intOf v4).toNat)
  case atStart => exact ⟨0, 0, true, by omega, rfl, (by (repeat (first | with_reducible assumption | ((with_reducible refine Blk.newL ?_ ?_); (focus (first | (simp; done) | omega)); rfl) | with_reducible refine Blk.drew ?_ | with_reducible refine Blk.drewN ?_ _ | with_reducible refine Blk.alloc ?_ _ | ((with_reducible refine Blk.other ?_ ?_ _); rotate_left; (focus (first | with_reducible assumption | omega | (simp; done) | (simp; omega))))))), (by (repeat (first | with_reducible assumption | ((with_reducible refine Blk.newL ?_ ?_); (focus (first | (simp; done) | omega)); rfl) | with_reducible refine Blk.drew ?_ | with_reducible refine Blk.drewN ?_ _ | with_reducible refine Blk.alloc ?_ _ | ((with_reducible refine Blk.other ?_ ?_ _); rotate_left; (focus (first | with_reducible assumption | omega | (simp; done) | (simp; omega))))))), (by (repeat (first | with_reducible assumption | with_reducible exact Kp.refl _ | with_reducible refine Kp.drew ?_ | with_reducible refine Kp.drewN ?_ _ | with_reducible refine Kp.alloc ?_ _ | ((with_reducible refine Kp.setCell ?_ ?_ _); rotate_left; (focus (first | omega | (simp; done) | (simp; omega)))) | with_reducible refine Kp.trans ?_ (by assumption)))), rfl, rfl⟩
  case round =>
    obtain ⟨k, s, o, hk, rfl, xr, xs, xk, hs⟩ := hrel
    have xl := hl.kp xk
    have HL := Lib.hid xl.1
    have y0 := xs.cell 0 rfl; have y1 := xs.cell 1 rfl
    cases o with
    | false =>
      have hn : runs 0 l = none ∧ s = 0 := by
        obtain ⟨h1, h2⟩ := hs.out
        cases h : runs 0 (l.take k) with
        | none =>
          have h3 := runs_none _ (l.drop k) _ h
          rw [h] at h2
          exact ⟨by rwa [List.take_append_drop] at h3, h2.symm⟩
        | some _ => rw [h] at h1; cases h1
      have HE : Hid (Ending.returned (.agg #[.int .i64 s, .bool false]) = .returned (.agg #[.int .i64 ((runs 0 l).getD 0), .bool (runs 0 l).isSome])) := by
        rw [hn.1, hn.2]; rfl
      clear hn hs
      have f0 := xr.free 0; have f1 := xr.free 1
      have g0 := xr.cell 0 rfl; have g1 := xr.cell 1 rfl
      by_cases hlt : k < len
      all_goals
        go_wp2
        refine ret_blk (vs := [.int .i64 s, .bool false]) (Blk.set (Blk.set xr 0 _) 1 _) ?_ rfl ⟨HE.out, (by (repeat (first | with_reducible assumption | with_reducible exact Kp.refl _ | with_reducible refine Kp.drew ?_ | with_reducible refine Kp.drewN ?_ _ | with_reducible refine Kp.alloc ?_ _ | ((with_reducible refine Kp.setCell ?_ ?_ _); rotate_left; (focus (first | omega | (simp; done) | (simp; omega)))) | with_reducible refine Kp.trans ?_ (by assumption))))⟩; intro wz bz; have z0 := bz.cell 0 rfl; have z1 := bz.cell 1 rfl; simp [results, Try.results42, go_sem, z0, z1]
    | true =>
      have hsome : runs 0 (l.take k) = some s := by
        obtain ⟨h1, h2⟩ := hs.out
        cases h : runs 0 (l.take k) with
        | none => rw [h] at h1; cases h1
        | some y => rw [h] at h2; exact congrArg some h2
      have HM := Lib.hid hsome; clear hsome hs
      by_cases hlt : k < len
      · obtain ⟨x, hx⟩ : ∃ x, l[k]? = some x := ⟨l[k]'(by rw [xl.1]; exact hlt), List.getElem?_eq_getElem _⟩
        have HX := Lib.hid hx; clear hx
        rcases xl.2.2.2 with e | ⟨b, off, rfl, hb, hrow⟩
        · exact absurd (by rw [← xl.1, e]; rfl) (Nat.ne_of_gt (Nat.lt_of_le_of_lt (Nat.zero_le k) hlt))
        · have c0 : wr.cell? ⟨b, off + k, none⟩ = some (.int .i64 x) := by
            have h := hrow k _ HX.out 0 _ rfl
            rw [Nat.mul_one] at h; exact h
          have HT := Lib.hid (take_snocI HX.out)
          have HXI := Lib.hid (HO.out _ (List.mem_of_getElem? HX.out))
          have HSI := Lib.hid (runs_i64 _ _ _ ⟨by decide, by decide⟩ HM.out)
          have hnext := runs_append (l.take k) x 0
          rw [HM.out, ← HT.out] at hnext
          simp only [Option.bind_some] at hnext
          have HN := Lib.hid hnext; clear hnext hrow
          go_wp2
          go_region_with (first
            | (go_at_call 38; refine (refAdd_any _ _ _ HSI.out.1 HSI.out.2 HXI.out.1 HXI.out.2).mono ?_; rintro e w' ⟨rfl, hw⟩; have kk := (Kp.refl wr.drew).alloc (.cells #[.int .i64 (clip (s + x)), .bool (fits (s + x))] 47); rw [← hw] at kk; clear hw; have zs := Blk.kp (xs.drew) kk; have z0 := zs.cell 0 rfl; have z1 := zs.cell 1 rfl; have f0 := zs.free 0; have f1 := zs.free 1))
          all_goals
            have zr := Blk.kp (xr.drew) kk
            have zk := Kp.trans (xk.drew) kk
            clear c0
            go_wp2
            go_roundw
            case rel =>
              refine ⟨k + 1, clip (s + x), fits (s + x), by omega, by go_num, ?_, (zs.set 0 _).set 1 _, (by (repeat (first | with_reducible assumption | with_reducible exact Kp.refl _ | with_reducible refine Kp.drew ?_ | with_reducible refine Kp.drewN ?_ _ | with_reducible refine Kp.alloc ?_ _ | ((with_reducible refine Kp.setCell ?_ ?_ _); rotate_left; (focus (first | omega | (simp; done) | (simp; omega)))) | with_reducible refine Kp.trans ?_ (by assumption)))), ?_, ?_⟩
              · (repeat (first | with_reducible assumption | ((with_reducible refine Blk.newL ?_ ?_); (focus (first | (simp; done) | omega)); rfl) | with_reducible refine Blk.drew ?_ | with_reducible refine Blk.drewN ?_ _ | with_reducible refine Blk.alloc ?_ _ | ((with_reducible refine Blk.other ?_ ?_ _); rotate_left; (focus (first | with_reducible assumption | omega | (simp; done) | (simp; omega))))))
              · rw [HN.out]; cases fits (s + x) <;> rfl
              · rw [HN.out]; cases h : fits (s + x)
                · rw [clip_no h]; rfl
                · rw [clip_yes h]; rfl
            case measure => simp [intOf]; omega
      · obtain rfl : k = len := by omega
        have hlast := HM.out
        rw [List.take_of_length_le (Nat.le_of_eq HL.out)] at hlast
        have HE : Hid (Ending.returned (.agg #[.int .i64 s, .bool true]) = .returned (.agg #[.int .i64 ((runs 0 l).getD 0), .bool (runs 0 l).isSome])) := by rw [hlast]; rfl
        clear hlast xl
        have f0 := xr.free 0; have f1 := xr.free 1
        have g0 := xr.cell 0 rfl; have g1 := xr.cell 1 rfl
        go_wp2
        refine ret_blk (vs := [.int .i64 s, .bool true]) (Blk.set (Blk.set xr 0 _) 1 _) ?_ rfl ⟨HE.out, (by (repeat (first | with_reducible assumption | with_reducible exact Kp.refl _ | with_reducible refine Kp.drew ?_ | with_reducible refine Kp.drewN ?_ _ | with_reducible refine Kp.alloc ?_ _ | ((with_reducible refine Kp.setCell ?_ ?_ _); rotate_left; (focus (first | omega | (simp; done) | (simp; omega)))) | with_reducible refine Kp.trans ?_ (by assumption))))⟩; intro wz bz; have z0 := bz.cell 0 rfl; have z1 := bz.cell 1 rfl; simp [results, Try.results42, go_sem, z0, z1]

set_option maxRecDepth 100000 in
set_option maxHeartbeats 2000000 in
theorem spSums_any (s : SlV Int) (w : World) (hs : SlOk w 1 enc1 s.a s.len s.cap s.l ∧ ∀ y, y ∈ s.l → I64 y) :
    Calls Try.prog 9 #[s.v] w fun e w' => e = .returned (.bool true) ∧ Kp w w' := by
  obtain ⟨a, len, cap, l⟩ := s
  obtain ⟨hl, ho⟩ := hs
  simp only [SlV.v] at *
  have hm := hl.2.2.1
  have hc := hl.2.1
  unfold maxLen at hm
  have HO := Lib.hid ho; clear ho
  by_cases hlen : len > 100
  · go_enter Try.func9, Try.ntmps9
    go_wp2_with (go_at_call 29; refine (spAwake_any _).mono ?_; rintro e w' ⟨rfl, kk⟩)
    go_ret
    exact ⟨rfl, (by (repeat (first | with_reducible assumption | with_reducible exact Kp.refl _ | with_reducible refine Kp.drew ?_ | with_reducible refine Kp.drewN ?_ _ | with_reducible refine Kp.alloc ?_ _ | ((with_reducible refine Kp.setCell ?_ ?_ _); rotate_left; (focus (first | omega | (simp; done) | (simp; omega)))) | with_reducible refine Kp.trans ?_ (by assumption))))⟩
  · go_enter Try.func9, Try.ntmps9
    go_wp2_with fail
    refine (spNew_any _).mono ?_
    rintro e v3 ⟨rfl, hv3⟩
    have x0 : Blk v3 w.heap.size (met 0 false) 100 := by subst hv3; exact Blk.new _ _ _
    have k3 : Kp w v3 := by subst hv3; exact (by (repeat (first | with_reducible assumption | with_reducible exact Kp.refl _ | with_reducible refine Kp.drew ?_ | with_reducible refine Kp.drewN ?_ _ | with_reducible refine Kp.alloc ?_ _ | ((with_reducible refine Kp.setCell ?_ ?_ _); rotate_left; (focus (first | omega | (simp; done) | (simp; omega)))) | with_reducible refine Kp.trans ?_ (by assumption))))
    clear hv3
    go_wp2
    go_loopw [4] (fun v4 wr => ∃ (k : Nat) (s : Int) (o : Bool), k ≤ len ∧ v4 = .int .i64 k ∧ Blk wr w.heap.size (met s o) 100 ∧ Kp w wr ∧ Hid (o = (runs 0 (l.take k)).isNone ∧ (runs 0 (l.take k)).getD 0 = s)) (fun v4 _ => len - (intOf v4).toNat)
    case atStart => exact ⟨0, 0, false, by omega, rfl, (by (repeat (first | with_reducible assumption | ((with_reducible refine Blk.newL ?_ ?_); (focus (first | (simp; done) | omega)); rfl) | with_reducible refine Blk.drew ?_ | with_reducible refine Blk.drewN ?_ _ | with_reducible refine Blk.alloc ?_ _ | ((with_reducible refine Blk.other ?_ ?_ _); rotate_left; (focus (first | with_reducible assumption | omega | (simp; done) | (simp; omega))))))), (by (repeat (first | with_reducible assumption | with_reducible exact Kp.refl _ | with_reducible refine Kp.drew ?_ | with_reducible refine Kp.drewN ?_ _ | with_reducible refine Kp.alloc ?_ _ | ((with_reducible refine Kp.setCell ?_ ?_ _); rotate_left; (focus (first | omega | (simp; done) | (simp; omega)))) | with_reducible refine Kp.trans ?_ (by assumption)))), rfl, rfl⟩
    case round =>
      clear x0 k3
      obtain ⟨k, s, o, hk, rfl, xs, xk, hs⟩ := hrel
      have xl := hl.kp xk
      have HL := Lib.hid xl.1
      by_cases hlt : k < len
      · obtain ⟨x, hx⟩ : ∃ x, l[k]? = some x := ⟨l[k]'(by rw [xl.1]; exact hlt), List.getElem?_eq_getElem _⟩
        have HX := Lib.hid hx; clear hx
        have HT := Lib.hid (take_snocI HX.out)
        have HXI := Lib.hid (HO.out _ (List.mem_of_getElem? HX.out))
        have hnext := runs_append (l.take k) x 0
        rw [← HT.out] at hnext
        have HN := Lib.hid hnext; clear hnext
        have i1 : IntKind.i64.wrap ((k : Int) + 1) = (k : Int) + 1 := IntWalk.i64_in _ (by omega)
        have i2 : (0 : Int) ≤ (k : Int) + 1 := by omega
        have i3 : ((k : Int) + 1).toNat = k + 1 := by omega
        have i4 : (k : Int) + 1 ≤ cap := by omega
        have XA := Lib.hid (hl.take (k := k + 1) (by omega))
        have HOT : Hid (∀ y, y ∈ l.take (k + 1) → I64 y) := Lib.hid (fun y hy => HO.out y (List.mem_of_mem_take hy))
        obtain ⟨z, hz⟩ : ∃ z, (runs 0 (l.take (k + 1))).getD 0 = z := ⟨_, rfl⟩
        obtain ⟨q, hq⟩ : ∃ q, (runs 0 (l.take (k + 1))).isSome = q := ⟨_, rfl⟩
        have HZ := Lib.hid hz; have HQ := Lib.hid hq
        clear hz hq
        go_wp2_with fail
        refine (refSpSum_any _ _ _ _ _ (XA.out.kp xk) HOT.out).mono ?_
        rintro e w1 ⟨rfl, k1⟩
        rw [HZ.out, HQ.out]
        have y1 := xs.kp k1
        have xk1 := xk.trans k1
        have xl1 := xl.kp k1
        rcases xl1.2.2.2 with e | ⟨b, off, rfl, hb, hrow⟩
        · exact absurd (by rw [← xl1.1, e]; rfl) (Nat.ne_of_gt (Nat.lt_of_le_of_lt (Nat.zero_le k) hlt))
        have c0 : w1.cell? ⟨b, off + k, none⟩ = some (.int .i64 x) := by
          have h := hrow k _ HX.out 0 _ rfl
          rw [Nat.mul_one] at h; exact h
        clear hrow xl1 xs xk xl k1
        have hpl : w.heap.size < w1.heap.size := y1.lt
        go_wp2_with fail
        have xm := y1.alloc (.cells #[.int .i64 z, .bool q] 47)
        have xn : Blk (w1.alloc (.cells #[.int .i64 z, .bool q] 47)) w1.heap.size (met z q) 47 := Blk.new _ _ _
        cases o with
        | true =>
          have hn : runs 0 (l.take (k + 1)) = none := by
            have h1 := hs.out.1
            rw [HN.out]
            cases hr : runs 0 (l.take k) with
            | none => rfl
            | some _ => rw [hr] at h1; cases h1
          have hz := HZ.out; have hq := HQ.out
          rw [hn] at hz hq
          have hsz : s = 0 := by
            have h1 := hs.out.1; have h2 := hs.out.2
            cases hr : runs 0 (l.take k) with
            | none => rw [hr] at h2; exact h2.symm
            | some _ => rw [hr] at h1; cases h1
          subst hsz
          obtain rfl : z = 0 := hz.symm
          obtain rfl : q = false := hq.symm
          clear hn hz hq hs
          refine (byAdd_spoilt _ _ _ (xm.cell 1 rfl)).mono ?_
          rintro e w3 ⟨rfl, hw3⟩
          rw [hw3]
          clear hw3
          go_wp2_with fail
          refine (value_spoilt _ _ (xm.cell 1 rfl)).mono ?_
          rintro e w4 ⟨rfl, hw4⟩
          rw [hw4]
          clear hw4
          have mm : Blk (w1.alloc (.cells #[.int .i64 0, .bool false] 47)) w.heap.size (met 0 (!false)) 100 := xm
          have nn := xn
          have km : Kp w (w1.alloc (.cells #[.int .i64 0, .bool false] 47)) := xk1.alloc _
          clear xm xn y1 xk1 c0
          go_wp2_with fail
          refine (spSum_any _ _ _ _ _ (XA.out.kp km) HOT.out).mono ?_
          rintro e w5 ⟨rfl, k5⟩
          rw [HZ.out, HQ.out]
          have m5 := mm.kp k5
          have n5 := nn.kp k5
          have kw5 := km.trans k5
          clear mm nn km k5
          have n0 := n5.cell 0 rfl; have n1 := n5.cell 1 rfl
          have is1 : ((0 : Int) == 0 && false == false) = true := by simp
          have IS := Lib.hid is1
          clear is1
          go_wp2_with fail
          refine (spIs_any _ _ _ _ _).mono ?_
          rintro e w6 ⟨rfl, k6⟩
          rw [IS.out]
          have m6 := m5.kp k6
          have n6 := n5.kp k6
          have kw6 := kw5.trans k6
          clear m5 n5 kw5 k6 n0 n1
          have n0 := n6.cell 0 rfl; have n1 := n6.cell 1 rfl
          go_wp2_with fail
          refine (spIs_any _ _ _ _ _).mono ?_
          rintro e w7 ⟨rfl, k7⟩
          rw [IS.out]
          have m7 := m6.kp k7
          have kw7 := kw6.trans k7
          clear m6 n6 kw6 k7 n0 n1
          go_wp2
          go_roundw
          case rel =>
            refine ⟨k + 1, 0, !false, by omega, by go_num, m7, kw7, ?_, HZ.out⟩
            have h := HQ.out
            cases hr : runs 0 (l.take (k + 1)) with
            | none => rw [hr] at h; rw [← h]; rfl
            | some _ => rw [hr] at h; rw [← h]; rfl
          case measure => simp [intOf]; omega
        | false =>
          have hsome : runs 0 (l.take k) = some s := by
            have h1 := hs.out.1; have h2 := hs.out.2
            cases hr : runs 0 (l.take k) with
            | none => rw [hr] at h1; cases h1
            | some y => rw [hr] at h2; exact congrArg some h2
          have HSI := Lib.hid (runs_i64 _ _ _ ⟨by decide, by decide⟩ hsome)
          have hn := HN.out
          rw [hsome] at hn
          simp only [Option.bind_some] at hn
          have hz := HZ.out; have hq := HQ.out
          rw [hn] at hz hq
          rw [(opt_fits (s + x)).1] at hz
          rw [(opt_fits (s + x)).2] at hq
          have zq : q = false → z = 0 := fun h => by rw [← hz, clip_no (by rw [hq, h])]
          have add := byAdd_any _ _ x _ xm HSI.out HXI.out
          rw [hq, hz] at add
          refine add.mono ?_
          rintro e w3 ⟨rfl, hw3⟩
          have mm : Blk w3 w.heap.size (met z (!q)) 100 := by subst hw3; exact (xm.set 0 _).set 1 _
          have nn : Blk w3 w1.heap.size (met z q) 47 := by subst hw3; exact (xn.other (by simp; omega) _).other (by simp; omega) _
          have km : Kp w w3 := by subst hw3; exact (by (repeat (first | with_reducible assumption | with_reducible exact Kp.refl _ | with_reducible refine Kp.drew ?_ | with_reducible refine Kp.drewN ?_ _ | with_reducible refine Kp.alloc ?_ _ | ((with_reducible refine Kp.setCell ?_ ?_ _); rotate_left; (focus (first | omega | (simp; done) | (simp; omega)))) | with_reducible refine Kp.trans ?_ (by assumption))))
          clear add xm xn y1 xk1 hw3 c0 hn hz hq hsome hs
          have hval : Calls Try.prog 30 #[.pointer (some ⟨w.heap.size, 0, none⟩)] w3 fun e w' => e = .returned (.tuple #[.int .i64 z, .bool q]) ∧ w' = w3 := by
            cases q with
            | true => exact value_any _ z _ (mm.cell 0 rfl) (mm.cell 1 rfl)
            | false =>
              obtain rfl := zq rfl
              exact value_spoilt _ _ (mm.cell 1 rfl)
          clear zq
          go_wp2_with fail
          refine hval.mono ?_
          rintro e w4 ⟨rfl, hw4⟩
          rw [hw4]
          clear hw4 hval
          go_wp2_with fail
          refine (spSum_any _ _ _ _ _ (XA.out.kp km) HOT.out).mono ?_
          rintro e w5 ⟨rfl, k5⟩
          rw [HZ.out, HQ.out]
          have m5 := mm.kp k5
          have n5 := nn.kp k5
          have kw5 := km.trans k5
          clear mm nn km k5
          have n0 := n5.cell 0 rfl; have n1 := n5.cell 1 rfl
          have is1 : (z == z && q == q) = true := by simp
          have IS := Lib.hid is1
          clear is1
          go_wp2_with fail
          refine (spIs_any _ _ _ _ _).mono ?_
          rintro e w6 ⟨rfl, k6⟩
          rw [IS.out]
          have m6 := m5.kp k6
          have n6 := n5.kp k6
          have kw6 := kw5.trans k6
          clear m5 n5 kw5 k6 n0 n1
          have n0 := n6.cell 0 rfl; have n1 := n6.cell 1 rfl
          go_wp2_with fail
          refine (spIs_any _ _ _ _ _).mono ?_
          rintro e w7 ⟨rfl, k7⟩
          rw [IS.out]
          have m7 := m6.kp k7
          have kw7 := kw6.trans k7
          clear m6 n6 kw6 k7 n0 n1
          go_wp2
          go_roundw
          case rel =>
            refine ⟨k + 1, z, !q, by omega, by go_num, m7, kw7, ?_, HZ.out⟩
            have h := HQ.out
            cases hr : runs 0 (l.take (k + 1)) with
            | none => rw [hr] at h; rw [← h]; rfl
            | some _ => rw [hr] at h; rw [← h]; rfl
          case measure => simp [intOf]; omega
      · obtain rfl : k = len := by omega
        go_wp2_with (go_at_call 29; go_must (refine (spAwake_any _).mono ?_); rintro e w' ⟨rfl, kk⟩)
        go_ret
        exact ⟨rfl, (by (repeat (first | with_reducible assumption | with_reducible exact Kp.refl _ | with_reducible refine Kp.drew ?_ | with_reducible refine Kp.drewN ?_ _ | with_reducible refine Kp.alloc ?_ _ | ((with_reducible refine Kp.setCell ?_ ?_ _); rotate_left; (focus (first | omega | (simp; done) | (simp; omega)))) | with_reducible refine Kp.trans ?_ (by assumption))))⟩
end Go.Proofs.Ytepckgcbncdibaa
