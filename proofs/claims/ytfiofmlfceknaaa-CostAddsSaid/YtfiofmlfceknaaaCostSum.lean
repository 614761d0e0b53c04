/- Sums of costs: Put, Cost, the reference's All. -/
import Derived.Test.YtfiofmlfceknaaaCostOrder
import Derived.Test.YtfiofmlfceknaaaSl
import Derived.Test.YtfiofmlfceknaaaCostLeast
namespace Go.Proofs.Ytfiofmlfceknaaa
open Go.RowKit

theorem take_snocC {α : Type} {l : List α} {k : Nat} {x : α} (h : l[k]? = some x) : l.take (k + 1) = l.take k ++ [x] := by
  obtain ⟨hk, rfl⟩ := List.getElem?_eq_some_iff.1 h
  rw [List.take_succ_eq_append_getElem hk]
theorem SlOk.take {α : Type} {w : World} {n : Nat} {enc : α → List Value} {a : Option Addr} {len cap : Nat} {l : List α} (h : SlOk w n enc a len cap l) {k : Nat} (hk : k ≤ len) : SlOk w n enc a k cap (l.take k) := by
  obtain ⟨h1, h2, h3, h4⟩ := h
  refine ⟨by rw [List.length_take]; omega, by omega, h3, ?_⟩
  rcases h4 with h4 | ⟨b, off, ha, hb, hr⟩
  · left; rw [h4]; exact List.take_nil
  · refine .inr ⟨b, off, ha, hb, fun i x hx => hr i x ?_⟩
    rw [List.getElem?_take] at hx
    split at hx
    · exact hx
    · cases hx

set_option maxHeartbeats 1000000 in
theorem costPut_any (p : Nat) (s0 s1 c0 c1 : Int) (w : World) (hp : Blk w p (ints [s0, s1]) 61) :
    Calls Try.prog 42 #[.pointer (some ⟨p, 0, none⟩), .agg #[.int .i64 c0, .int .i64 c1]] w
      fun e w' => e = .returned (.tuple #[]) ∧ ∃ w0, Kp w w0 ∧ w' = (w0.setCell ⟨p, 0, none⟩ (.int .i64 (add1 s0 c0))).setCell ⟨p, 1, none⟩ (.int .i64 (add1 s1 c1)) := by
  have y0 := hp.cell 0 rfl; have y1 := hp.cell 1 rfl
  have y_ne := hp.lt
  go_enter Try.func42, Try.ntmps42
  go_wp2_with fail
  go_region_with (first
    | (go_at_call 40; refine (costAdd_any _ _ _ _ _).mono ?_; rintro e w' ⟨rfl, kk⟩; have zs := Blk.kp ((hp.alloc _).drew) kk; have z0 := zs.cell 0 rfl; have z1 := zs.cell 1 rfl; have f0 := zs.free 0; have f1 := zs.free 1))
  all_goals
    have zk := Kp.trans ((Kp.refl w).alloc _).drew kk
    go_wp2
    exact ⟨rfl, .tuple #[], (by simp [results, Try.results42, go_sem]), ⟨rfl, _, zk, rfl⟩⟩

theorem costPutNil_any (c0 c1 : Int) (w : World) :
    Calls Try.prog 42 #[.pointer none, .agg #[.int .i64 c0, .int .i64 c1]] w
      fun e w' => e = .returned (.tuple #[]) ∧ Kp w w' := by
  go_enter Try.func42, Try.ntmps42
  go_wp2
  exact ⟨rfl, .tuple #[], (by simp [results, Try.results42, go_sem]), ⟨rfl, (by (repeat (first | with_reducible assumption | with_reducible exact Kp.refl _ | with_reducible refine Kp.drew ?_ | with_reducible refine Kp.drewN ?_ _ | with_reducible refine Kp.alloc ?_ _ | ((with_reducible refine Kp.setCell ?_ ?_ _); rotate_left; (focus (first | omega | (simp; done) | (simp; omega)))) | with_reducible refine Kp.trans ?_ (by assumption))))⟩⟩

theorem costCost_any (p : Nat) (s0 s1 : Int) (w : World) (hp : Blk w p (ints [s0, s1]) 61) :
    Calls Try.prog 43 #[.pointer (some ⟨p, 0, none⟩)] w
      fun e w' => e = .returned (.agg #[.int .i64 s0, .int .i64 s1]) ∧ Kp w w' := by
  have y0 := hp.cell 0 rfl; have y1 := hp.cell 1 rfl
  have y_ne := hp.lt
  go_enter Try.func43, Try.ntmps43
  go_wp2
  exact bodyPost_ret (v := .agg #[.int .i64 s0, .int .i64 s1]) (by simp [results, Try.results43, go_sem]) rfl ⟨rfl, (by (repeat (first | with_reducible assumption | with_reducible exact Kp.refl _ | with_reducible refine Kp.drew ?_ | with_reducible refine Kp.drewN ?_ _ | with_reducible refine Kp.alloc ?_ _ | ((with_reducible refine Kp.setCell ?_ ?_ _); rotate_left; (focus (first | omega | (simp; done) | (simp; omega)))) | with_reducible refine Kp.trans ?_ (by assumption))))⟩

theorem costCostNil_any (w : World) :
    Calls Try.prog 43 #[.pointer none] w
      fun e w' => e = .returned (.agg #[.int .i64 0, .int .i64 0]) ∧ Kp w w' := by
  go_enter Try.func43, Try.ntmps43
  go_wp2
  exact bodyPost_ret (v := .agg #[.int .i64 0, .int .i64 0]) (by simp [results, Try.results43, go_sem]) rfl ⟨rfl, (by (repeat (first | with_reducible assumption | with_reducible exact Kp.refl _ | with_reducible refine Kp.drew ?_ | with_reducible refine Kp.drewN ?_ _ | with_reducible refine Kp.alloc ?_ _ | ((with_reducible refine Kp.setCell ?_ ?_ _); rotate_left; (focus (first | omega | (simp; done) | (simp; omega)))) | with_reducible refine Kp.trans ?_ (by assumption))))⟩

set_option maxRecDepth 100000 in
set_option maxHeartbeats 1000000 in
theorem refAll_any (a : Option Addr) (len cap : Nat) (l : List Cost) (w : World) (hl : SlOk w 2 Cost.cells a len cap l) (hok : ∀ x, x ∈ l → x.ok) :
    Calls Try.prog 44 #[.slice a len cap] w
      fun e w' => e = .returned (.agg #[.int .i64 (allC ⟨0, 0⟩ l).over, .int .i64 (allC ⟨0, 0⟩ l).sum]) ∧ Kp w w' := by
  have hm := hl.2.2.1
  have hc := hl.2.1
  unfold maxLen at hm
  have HO := Lib.hid hok; clear hok
  go_enter Try.func44, Try.ntmps44
  go_wp2
  go_loopw [4] (fun v4 wr => ∃ (k : Nat) (s0 s1 : Int), k ≤ len ∧ v4 = .int .i64 k ∧ Blk wr w.heap.size (ints [0, 0]) 54 ∧ Blk wr (w.heap.size + 1) (ints [s0, s1]) 54 ∧ Kp w wr ∧ Hid (allC ⟨0, 0⟩ (l.take k) = ⟨s0, s1⟩ ∧ I64 s0 ∧ I64 s1)) (fun v4 _ => len - (intOf v4).toNat)
  case atStart => exact ⟨0, 0, 0, by omega, rfl, (by (repeat (first | with_reducible assumption | ((with_reducible refine Blk.newL ?_ ?_); (focus (first | (simp; done) | omega)); rfl) | with_reducible refine Blk.drew ?_ | with_reducible refine Blk.drewN ?_ _ | with_reducible refine Blk.alloc ?_ _ | ((with_reducible refine Blk.other ?_ ?_ _); rotate_left; (focus (first | with_reducible assumption | omega | (simp; done) | (simp; omega))))))), (by (repeat (first | with_reducible assumption | ((with_reducible refine Blk.newL ?_ ?_); (focus (first | (simp; done) | omega)); rfl) | with_reducible refine Blk.drew ?_ | with_reducible refine Blk.drewN ?_ _ | with_reducible refine Blk.alloc ?_ _ | ((with_reducible refine Blk.other ?_ ?_ _); rotate_left; (focus (first | with_reducible assumption | omega | (simp; done) | (simp; omega))))))), (by (repeat (first | with_reducible assumption | with_reducible exact Kp.refl _ | with_reducible refine Kp.drew ?_ | with_reducible refine Kp.drewN ?_ _ | with_reducible refine Kp.alloc ?_ _ | ((with_reducible refine Kp.setCell ?_ ?_ _); rotate_left; (focus (first | omega | (simp; done) | (simp; omega)))) | with_reducible refine Kp.trans ?_ (by assumption)))), rfl, ⟨by decide, by decide⟩, ⟨by decide, by decide⟩⟩
  case round =>
    obtain ⟨k, s0, s1, hk, rfl, xr, xs, xk, hs⟩ := hrel
    have xl := hl.kp xk
    have HL := Lib.hid xl.1
    have y0 := xs.cell 0 rfl; have y1 := xs.cell 1 rfl
    by_cases hlt : k < len
    · obtain ⟨x, hx⟩ : ∃ x, l[k]? = some x := ⟨l[k]'(by rw [xl.1]; exact hlt), List.getElem?_eq_getElem _⟩
      have HX := Lib.hid hx; clear hx
      rcases xl.2.2.2 with e | ⟨b, off, rfl, hb, hrow⟩
      · exact absurd (by rw [← xl.1, e]; rfl) (Nat.ne_of_gt (Nat.lt_of_le_of_lt (Nat.zero_le k) hlt))
      · obtain ⟨x0, x1⟩ := x
        have c0 : wr.cell? ⟨b, off + k * 2, none⟩ = some (.int .i64 x0) := hrow k _ HX.out 0 _ rfl
        have c1 : wr.cell? ⟨b, off + k * 2 + 1, none⟩ = some (.int .i64 x1) := hrow k _ HX.out 1 _ rfl
        have HT := Lib.hid (take_snocC HX.out)
        clear hrow
        have okx : (Cost.mk x0 x1).ok := HO.out _ (List.mem_of_getElem? HX.out)
        have OKX := Lib.hid okx; clear okx
        have hnext := allC_append (l.take k) ⟨x0, x1⟩ ⟨0, 0⟩
        rw [hs.out.1, ← HT.out] at hnext
        have HN := Lib.hid hnext; clear hnext
        go_wp2
        go_region_with (first
          | (go_at_call 47; refine (refCostAdd_any _ _ _ _ _ hs.out.2.1 hs.out.2.2 OKX.out.1 OKX.out.2).mono ?_; rintro e w' ⟨rfl, kk⟩; have zs := Blk.kp (xs.drew) kk; have z0 := zs.cell 0 rfl; have z1 := zs.cell 1 rfl; have f0 := zs.free 0; have f1 := zs.free 1))
        all_goals
          have zr := Blk.kp (xr.drew) kk
          have zk := Kp.trans (xk.drew) kk
          clear c0 c1
          go_wp2
          go_roundw
          case rel =>
            refine ⟨k + 1, _, _, by omega, by go_num, ?_, (zs.set 0 _).set 1 _, (by (repeat (first | with_reducible assumption | with_reducible exact Kp.refl _ | with_reducible refine Kp.drew ?_ | with_reducible refine Kp.drewN ?_ _ | with_reducible refine Kp.alloc ?_ _ | ((with_reducible refine Kp.setCell ?_ ?_ _); rotate_left; (focus (first | omega | (simp; done) | (simp; omega)))) | with_reducible refine Kp.trans ?_ (by assumption)))), HN.out, ?_, ?_⟩
            · (repeat (first | with_reducible assumption | ((with_reducible refine Blk.newL ?_ ?_); (focus (first | (simp; done) | omega)); rfl) | with_reducible refine Blk.drew ?_ | with_reducible refine Blk.drewN ?_ _ | with_reducible refine Blk.alloc ?_ _ | ((with_reducible refine Blk.other ?_ ?_ _); rotate_left; (focus (first | with_reducible assumption | omega | (simp; done) | (simp; omega))))))
            · exact ⟨by have := add1_bounds s0 x0; omega, by have := add1_bounds s0 x0; omega⟩
            · exact ⟨by have := add1_bounds s1 x1; omega, by have := add1_bounds s1 x1; omega⟩
          case measure => simp [intOf]; omega
    · obtain rfl : k = len := by omega
      have hlast := hs.out.1
      rw [List.take_of_length_le (Nat.le_of_eq HL.out)] at hlast
      have HE : Hid (Ending.returned (.agg #[.int .i64 s0, .int .i64 s1]) = .returned (.agg #[.int .i64 (allC ⟨0, 0⟩ l).over, .int .i64 (allC ⟨0, 0⟩ l).sum])) := by rw [hlast]; rfl
      clear hlast
      have f0 := xr.free 0; have f1 := xr.free 1
      have g0 := xr.cell 0 rfl; have g1 := xr.cell 1 rfl
      go_wp2
      refine ret_blk (vs := [.int .i64 s0, .int .i64 s1]) (Blk.set (Blk.set xr 0 _) 1 _) ?_ rfl ⟨HE.out, (by (repeat (first | with_reducible assumption | with_reducible exact Kp.refl _ | with_reducible refine Kp.drew ?_ | with_reducible refine Kp.drewN ?_ _ | with_reducible refine Kp.alloc ?_ _ | ((with_reducible refine Kp.setCell ?_ ?_ _); rotate_left; (focus (first | omega | (simp; done) | (simp; omega)))) | with_reducible refine Kp.trans ?_ (by assumption))))⟩; intro wz bz; have z0 := bz.cell 0 rfl; have z1 := bz.cell 1 rfl; simp [results, Try.results44, go_sem, z0, z1]
end Go.Proofs.Ytfiofmlfceknaaa
