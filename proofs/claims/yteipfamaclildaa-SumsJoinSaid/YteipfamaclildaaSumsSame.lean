/- The same totals, and the total of a piece by the document: the walks. -/
import Derived.Test.YteipfamaclildaaSumsRef

import Derived.Test.YteipfamaclildaaRefTotAdd

import Derived.Test.YteipfamaclildaaEq

import Derived.Deep.QuietTactic

namespace Go.Proofs.Yteipfamaclildaa

open Go.RowKit

set_option maxRecDepth 100000 in
set_option maxHeartbeats 4000000 in
theorem same_yes (a1 a2 : Option Addr) (cap1 cap2 : Nat) (L : List Tot) (w : World) (h1 : SlOk w 6 Tot.cells6 a1 L.length cap1 L) (h2 : SlOk w 6 Tot.cells6 a2 L.length cap2 L) (h4 : L.length ≤ 5000) :
    Calls Try.prog 17 #[.slice a1 L.length cap1, .slice a2 L.length cap2] w fun e w' => e = .returned (.bool true) ∧ Kp w w' := by
  have eT := @eqTot
  go_enter Try.func17, Try.ntmps17
  go_wp2
  go_loopw [5] (fun v5 wr => ∃ (k : Nat), k ≤ L.length ∧ v5 = .int .i64 k ∧ Kp w wr) (fun v5 _ => L.length - (intOf v5).toNat)
  case atStart => exact ⟨0, by omega, rfl, (by (repeat (first | with_reducible assumption | with_reducible exact Kp.refl _ | with_reducible refine Kp.drew ?_ | with_reducible refine Kp.drewN ?_ _ | with_reducible refine Kp.alloc ?_ _ | ((with_reducible refine Kp.setCell ?_ ?_ _); rotate_left; (focus (first | omega | (simp; done) | (simp; omega)))) | with_reducible refine Kp.trans ?_ (by assumption))))⟩
  case round =>
    obtain ⟨k, hk, rfl, xk⟩ := hrel
    by_cases hlt : k < L.length
    · obtain ⟨t, hy⟩ : ∃ y, L[k]? = some y := ⟨L[k]'hlt, List.getElem?_eq_getElem _⟩
      rcases h1.2.2.2 with e | ⟨b, off, rfl, hb, hrow⟩
      · exact absurd (by rw [e]; rfl) (Nat.ne_of_gt (Nat.lt_of_le_of_lt (Nat.zero_le k) hlt))
      · rcases h2.2.2.2 with e | ⟨b', off', rfl, hb', hrow'⟩
        · exact absurd (by rw [e]; rfl) (Nat.ne_of_gt (Nat.lt_of_le_of_lt (Nat.zero_le k) hlt))
        · obtain ⟨t0, t1, t2, t3, t4, t5⟩ := t
          have hc : ∀ c v, (Tot.cells6 ⟨t0, t1, t2, t3, t4, t5⟩)[c]? = some v → wr.cell? ⟨b, off + k * 6 + c, none⟩ = some v := fun c v hv => (xk.cell (p := ⟨b, off + k * 6 + c, none⟩) hb).trans (hrow k _ hy c v hv)
          have hd : ∀ c v, (Tot.cells6 ⟨t0, t1, t2, t3, t4, t5⟩)[c]? = some v → wr.cell? ⟨b', off' + k * 6 + c, none⟩ = some v := fun c v hv => (xk.cell (p := ⟨b', off' + k * 6 + c, none⟩) hb').trans (hrow' k _ hy c v hv)
          have c0 := hc 0 _ rfl; have c1 := hc 1 _ rfl; have c2 := hc 2 _ rfl; have c3 := hc 3 _ rfl; have c4 := hc 4 _ rfl; have c5 := hc 5 _ rfl
          have d0 := hd 0 _ rfl; have d1 := hd 1 _ rfl; have d2 := hd 2 _ rfl; have d3 := hd 3 _ rfl; have d4 := hd 4 _ rfl; have d5 := hd 5 _ rfl
          rw [Nat.add_zero] at c0 d0
          have hne : (!(t0 == t0 && ((t1 == t1 && (t2 == t2 && (t3 == t3 && t4 == t4))) && t5 == t5))) = false := by simp
          clear hc hd hrow hrow' hy
          go_wp2
          go_quiet (fail)
          go_wp2
          go_roundw
          case rel => exact ⟨k + 1, by omega, by go_num, (by (repeat (first | with_reducible assumption | with_reducible exact Kp.refl _ | with_reducible refine Kp.drew ?_ | with_reducible refine Kp.drewN ?_ _ | with_reducible refine Kp.alloc ?_ _ | ((with_reducible refine Kp.setCell ?_ ?_ _); rotate_left; (focus (first | omega | (simp; done) | (simp; omega)))) | with_reducible refine Kp.trans ?_ (by assumption))))⟩
          case measure => simp [intOf]; omega
    · obtain rfl : k = L.length := by omega
      go_wp2
      go_ret
      exact ⟨rfl, xk⟩

theorem fieldT (u0 u1 u2 u3 u4 u5 : Int) (ok : Bool) (w : World) : (Instr.field 44 (.agg #[.int .i64 u0, .int .i64 u1, .int .i64 u2, .int .i64 u3, .int .i64 u4, .int .i64 u5, .bool ok]) 0).run Try.prog w = .ok (.agg #[.int .i64 u0, .int .i64 u1, .int .i64 u2, .int .i64 u3, .int .i64 u4, .int .i64 u5]) w := by
  have hb := Try.isAgg31
  simp [Instr.field, go_sem, hb, part, asAgg]
set_option maxRecDepth 100000 in
set_option maxHeartbeats 4000000 in
theorem refOf_tot (a : Option Addr) (cap : Nat) (l : List Item) (x y : Int) (w : World) (hl : SlOk w 7 Item.cells a l.length cap l) (h4 : l.length ≤ 4096) (hf : fairL l = true) :
    Calls Try.prog 16 #[.slice a l.length cap, .int .i64 x, .int .i64 y] w fun e w' => e = .returned (psum (piece l x y)).v ∧ Kp w w' := by
  have HF := Lib.hid hf
  clear hf
  go_enter Try.func16, Try.ntmps16
  go_wp2
  go_loopw [8] (fun v8 wr => ∃ (k : Nat) (o0 o1 o2 o3 o4 o5 : Int), k ≤ l.length ∧ v8 = .int .i64 k ∧ Hid (psum (pc l x y k) = ⟨o0, o1, o2, o3, o4, o5⟩) ∧ Blk wr w.heap.size (ints [0, 0, 0, 0, 0, 0]) 31 ∧ Blk wr (w.heap.size + 1) [.int .i64 o0, .int .i64 o1, .int .i64 o2, .int .i64 o3, .int .i64 o4, .int .i64 o5] 31 ∧ Kp w wr) (fun v8 _ => l.length - (intOf v8).toNat)
  case atStart => exact ⟨0, 0, 0, 0, 0, 0, 0, by omega, rfl, Lib.hid (by rw [pc_zero]; rfl), (by (repeat (first | with_reducible assumption | ((with_reducible refine Blk.newL ?_ ?_); (focus (first | (simp; done) | omega)); rfl) | with_reducible refine Blk.drew ?_ | with_reducible refine Blk.drewN ?_ _ | with_reducible refine Blk.alloc ?_ _ | ((with_reducible refine Blk.other ?_ ?_ _); rotate_left; (focus (first | with_reducible assumption | omega | (simp; done) | (simp; omega))))))), (by (repeat (first | with_reducible assumption | ((with_reducible refine Blk.newL ?_ ?_); (focus (first | (simp; done) | omega)); rfl) | with_reducible refine Blk.drew ?_ | with_reducible refine Blk.drewN ?_ _ | with_reducible refine Blk.alloc ?_ _ | ((with_reducible refine Blk.other ?_ ?_ _); rotate_left; (focus (first | with_reducible assumption | omega | (simp; done) | (simp; omega))))))), (by (repeat (first | with_reducible assumption | with_reducible exact Kp.refl _ | with_reducible refine Kp.drew ?_ | with_reducible refine Kp.drewN ?_ _ | with_reducible refine Kp.alloc ?_ _ | ((with_reducible refine Kp.setCell ?_ ?_ _); rotate_left; (focus (first | omega | (simp; done) | (simp; omega)))) | with_reducible refine Kp.trans ?_ (by assumption))))⟩
  case round =>
    obtain ⟨k, o0, o1, o2, o3, o4, o5, hk, rfl, hs, xr, xt, xk⟩ := hrel
    by_cases hlt : k < l.length
    · obtain ⟨y', hy⟩ : ∃ y, l[k]? = some y := ⟨l[k]'hlt, List.getElem?_eq_getElem _⟩
      rcases hl.2.2.2 with e | ⟨b, off, rfl, hb, hrow⟩
      · exact absurd (by rw [e]; rfl) (Nat.ne_of_gt (Nat.lt_of_le_of_lt (Nat.zero_le k) hlt))
      · obtain ⟨x0, x1, x2, x3, x4, x5, x6⟩ := y'
        have hc : ∀ c v, (Item.cells ⟨x0, x1, x2, x3, x4, x5, x6⟩)[c]? = some v → wr.cell? ⟨b, off + k * 7 + c, none⟩ = some v := fun c v hv => (xk.cell (p := ⟨b, off + k * 7 + c, none⟩) hb).trans (hrow k _ hy c v hv)
        have c0 := hc 0 _ rfl; have c1 := hc 1 _ rfl; have c2 := hc 2 _ rfl; have c3 := hc 3 _ rfl; have c4 := hc 4 _ rfl; have c5 := hc 5 _ rfl; have c6 := hc 6 _ rfl
        rw [Nat.add_zero] at c0
        by_cases hin : x ≤ k ∧ (k : Int) < y
        · have hpc := pc_in hin.1 hin.2 hy
          have hgs := psum_snoc (pc l x y k) ⟨x0, x1, x2, x3, x4, x5, x6⟩
          rw [← hpc, hs.out] at hgs
          have hq := psum_within (pc l x y k) (pc_fair HF.out x y k)
          have hpl := pc_len l x y k
          rw [hs.out] at hq
          have hfx : fairT (totI ⟨x0, x1, x2, x3, x4, x5, x6⟩) = true := by
            have := HF.out
            unfold fairL at this
            rw [List.all_eq_true] at this
            exact this _ (List.mem_of_getElem? hy)
          have cT := refItemTot_any ⟨x0, x1, x2, x3, x4, x5, x6⟩
          obtain ⟨⟨t0, t1, t2, t3, t4, t5⟩, ht⟩ : ∃ t, totI ⟨x0, x1, x2, x3, x4, x5, x6⟩ = t := ⟨_, rfl⟩
          rw [ht] at cT hgs hfx
          simp only [Item.v, Tot.v] at cT
          have ha := add_exact hq (fairT_within hfx) (by omega)
          obtain ⟨⟨u0, u1, u2, u3, u4, u5⟩, hu⟩ : ∃ u, Tot.plus ⟨o0, o1, o2, o3, o4, o5⟩ ⟨t0, t1, t2, t3, t4, t5⟩ = u := ⟨_, rfl⟩
          rw [hu] at ha hgs
          have cA := fun w => refTotAdd_any o0 o1 o2 o3 o4 o5 t0 t1 t2 t3 t4 t5 w (within_ok hq (by omega)) (within_ok (fairT_within hfx) (by decide))
          rw [ha.1, ha.2] at cA
          simp only at cA
          have CA := Lib.hid cA; have CT := Lib.hid cT; have HG := Lib.hid hgs
          obtain ⟨j1, j2⟩ := hin
          have fT := fieldT
          clear hc hpc hgs hq hpl hfx ht ha hu cA cT hy hrow
          have q0 := xt.cell 0 rfl; have q1 := xt.cell 1 rfl; have q2 := xt.cell 2 rfl; have q3 := xt.cell 3 rfl; have q4 := xt.cell 4 rfl; have q5 := xt.cell 5 rfl
          go_wp2
          go_region_with (first
            | (go_at_call 48; go_must (refine (CT.out _).mono ?_); rintro e w2 ⟨rfl, k2⟩; have zt := Blk.kp (xt.drew) k2; have z0 := zt.cell 0 rfl; have z1 := zt.cell 1 rfl; have z2 := zt.cell 2 rfl; have z3 := zt.cell 3 rfl; have z4 := zt.cell 4 rfl; have z5 := zt.cell 5 rfl)
            | (go_at_call 23; go_must (refine (CA.out _).mono ?_); rintro e w3 ⟨rfl, k3⟩; have yt := Blk.kp zt k3; have r0 := yt.cell 0 rfl; have r1 := yt.cell 1 rfl; have r2 := yt.cell 2 rfl; have r3 := yt.cell 3 rfl; have r4 := yt.cell 4 rfl; have r5 := yt.cell 5 rfl; have f0 := yt.free 0; have f1 := yt.free 1; have f2 := yt.free 2; have f3 := yt.free 3; have f4 := yt.free 4; have f5 := yt.free 5))
          all_goals
            have yr := (xr.drew.kp k2).kp k3
            have yk : Kp w w3 := ((xk.drew).trans k2).trans k3
            clear q0 q1 q2 q3 q4 q5 z0 z1 z2 z3 z4 z5 c0 c1 c2 c3 c4 c5 c6 xr xt k2 k3
            go_wp2
            go_roundw
            case rel => exact ⟨k + 1, u0, u1, u2, u3, u4, u5, by omega, by go_num, HG, (by (repeat (first | with_reducible assumption | ((with_reducible refine Blk.newL ?_ ?_); (focus (first | (simp; done) | omega)); rfl) | with_reducible refine Blk.drew ?_ | with_reducible refine Blk.drewN ?_ _ | with_reducible refine Blk.alloc ?_ _ | ((with_reducible refine Blk.other ?_ ?_ _); rotate_left; (focus (first | with_reducible assumption | omega | (simp; done) | (simp; omega))))))), (((((yt.set 0 (.int .i64 u0)).set 1 (.int .i64 u1)).set 2 (.int .i64 u2)).set 3 (.int .i64 u3)).set 4 (.int .i64 u4)).set 5 (.int .i64 u5), (by (repeat (first | with_reducible assumption | with_reducible exact Kp.refl _ | with_reducible refine Kp.drew ?_ | with_reducible refine Kp.drewN ?_ _ | with_reducible refine Kp.alloc ?_ _ | ((with_reducible refine Kp.setCell ?_ ?_ _); rotate_left; (focus (first | omega | (simp; done) | (simp; omega)))) | with_reducible refine Kp.trans ?_ (by assumption))))⟩
            case measure => simp [intOf]; omega
        · have hpc := pc_out (l := l) hin
          have HS : Hid (psum (pc l x y (k + 1)) = ⟨o0, o1, o2, o3, o4, o5⟩) := Lib.hid (by rw [hpc]; exact hs.out)
          clear hpc hc
          by_cases hx1 : x ≤ k
          · have hy1 : decide ((k : Int) < y) = false := decide_eq_false (by omega)
            go_wp2
            go_roundw
            case rel => exact ⟨k + 1, o0, o1, o2, o3, o4, o5, by omega, by go_num, HS, xr, xt, xk⟩
            case measure => simp [intOf]; omega
          · have hx2 : decide (x ≤ (k : Int)) = false := decide_eq_false hx1
            go_wp2
            go_roundw
            case rel => exact ⟨k + 1, o0, o1, o2, o3, o4, o5, by omega, by go_num, HS, xr, xt, xk⟩
            case measure => simp [intOf]; omega
    · obtain rfl : k = l.length := by omega
      have hv := hs.out
      rw [piece_pc] at hv
      have HV := Lib.hid hv
      clear hv
      have q0 := xt.cell 0 rfl; have q1 := xt.cell 1 rfl; have q2 := xt.cell 2 rfl; have q3 := xt.cell 3 rfl; have q4 := xt.cell 4 rfl; have q5 := xt.cell 5 rfl
      have e0 := xr.cell 0 rfl; have e1 := xr.cell 1 rfl; have e2 := xr.cell 2 rfl; have e3 := xr.cell 3 rfl; have e4 := xr.cell 4 rfl; have e5 := xr.cell 5 rfl
      have f0 := xr.free 0; have f1 := xr.free 1; have f2 := xr.free 2; have f3 := xr.free 3; have f4 := xr.free 4; have f5 := xr.free 5
      have HE : Hid (Ending.returned (.agg #[.int .i64 o0, .int .i64 o1, .int .i64 o2, .int .i64 o3, .int .i64 o4, .int .i64 o5]) = .returned (psum (piece l x y)).v) := Lib.hid (by rw [HV.out]; rfl)
      go_wp2
      refine ret_blk (vs := [.int .i64 o0, .int .i64 o1, .int .i64 o2, .int .i64 o3, .int .i64 o4, .int .i64 o5]) (Blk.set (Blk.set (Blk.set (Blk.set (Blk.set (Blk.set xr 0 _) 1 _) 2 _) 3 _) 4 _) 5 _) ?_ rfl ⟨HE.out, (by (repeat (first | with_reducible assumption | with_reducible exact Kp.refl _ | with_reducible refine Kp.drew ?_ | with_reducible refine Kp.drewN ?_ _ | with_reducible refine Kp.alloc ?_ _ | ((with_reducible refine Kp.setCell ?_ ?_ _); rotate_left; (focus (first | omega | (simp; done) | (simp; omega)))) | with_reducible refine Kp.trans ?_ (by assumption))))⟩; intro wz bz; have z0 := bz.cell 0 rfl; have z1 := bz.cell 1 rfl; have z2 := bz.cell 2 rfl; have z3 := bz.cell 3 rfl; have z4 := bz.cell 4 rfl; have z5 := bz.cell 5 rfl; simp [results, Try.results16, go_sem, z0, z1, z2, z3, z4, z5]
end Go.Proofs.Yteipfamaclildaa
