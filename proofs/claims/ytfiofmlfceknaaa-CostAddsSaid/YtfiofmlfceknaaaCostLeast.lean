/- The least of costs: package cost and its reference. -/
import Derived.Test.YtfiofmlfceknaaaCost
namespace Go.Proofs.Ytfiofmlfceknaaa
open Go.RowKit

/-- The cost at a place. -/
def costAt (l : List Cost) (k : Nat) : Cost := (l[k]?).getD ⟨0, 0⟩
def cmpAt (l : List Cost) (i j : Nat) : Int := cmpC (costAt l i).over (costAt l i).sum (costAt l j).over (costAt l j).sum
/-- The first of the least among the first k; -1: there is none. -/
def leastTo (l : List Cost) : Nat → Int
  | 0 => -1
  | k + 1 => if leastTo l k < 0 ∨ cmpAt l k (leastTo l k).toNat < 0 then (k : Int) else leastTo l k
theorem leastTo_bounds (l : List Cost) (k : Nat) : -1 ≤ leastTo l k ∧ leastTo l k < k ∧ (0 < k → 0 ≤ leastTo l k) := by
  induction k with
  | zero => simp only [leastTo]; omega
  | succ k ih =>
    simp only [leastTo]
    by_cases h : leastTo l k < 0 ∨ cmpAt l k (leastTo l k).toNat < 0
    · rw [if_pos h]; omega
    · rw [if_neg h]; omega
theorem leastTo_one (l : List Cost) : leastTo l 1 = 0 := by simp [leastTo]
theorem leastTo_yes {l : List Cost} {k m : Nat} (h : leastTo l k = m) (hc : cmpAt l k m < 0) : leastTo l (k + 1) = k := by
  simp only [leastTo]; rw [if_pos]; right; rw [h]; simpa using hc
theorem leastTo_no {l : List Cost} {k m : Nat} (h : leastTo l k = m) (hc : ¬ cmpAt l k m < 0) : leastTo l (k + 1) = m := by
  simp only [leastTo]; rw [if_neg]
  · exact h
  · rw [h]; simp only [Int.toNat_natCast]; omega
theorem costAt_of {l : List Cost} {k : Nat} {x : Cost} (h : l[k]? = some x) : costAt l k = x := by unfold costAt; rw [h]; rfl

set_option maxRecDepth 100000 in
set_option maxHeartbeats 1000000 in
theorem least_any (a : Option Addr) (len cap : Nat) (l : List Cost) (w : World) (hl : SlOk w 2 Cost.cells a len cap l) :
    Calls Try.prog 70 #[.slice a len cap, .func (Fn.func 69) #[] #[]] w
      fun e w' => e = .returned (.int .i64 (leastTo l l.length)) ∧ Kp w w' := by
  have hm := hl.2.2.1
  have hc := hl.2.1
  unfold maxLen at hm
  go_enter Try.func70, Try.ntmps70
  go_wp2
  go_loopw [5, 10] (fun v5 v10 wr => ∃ k : Nat, k ≤ len ∧ v10 = .int .i64 k ∧ Kp w wr ∧ ((k = 0 ∧ v5 = .int .i64 (-1)) ∨ ∃ m : Nat, m < k ∧ v5 = .int .i64 m ∧ Hid (leastTo l k = m))) (fun _ v10 _ => len - (intOf v10).toNat)
  case atStart => exact ⟨0, by omega, rfl, (by (repeat (first | with_reducible assumption | with_reducible exact Kp.refl _ | with_reducible refine Kp.drew ?_ | with_reducible refine Kp.drewN ?_ _ | with_reducible refine Kp.alloc ?_ _ | ((with_reducible refine Kp.setCell ?_ ?_ _); rotate_left; (focus (first | omega | (simp; done) | (simp; omega)))) | with_reducible refine Kp.trans ?_ (by assumption)))), .inl ⟨rfl, rfl⟩⟩
  case round =>
    obtain ⟨k, hk, rfl, xk, hcase⟩ := hrel
    have xl := hl.kp xk
    have HL := Lib.hid xl.1
    by_cases hlt : k < len
    · obtain ⟨x, hx⟩ : ∃ x, l[k]? = some x := ⟨l[k]'(by rw [xl.1]; exact hlt), List.getElem?_eq_getElem _⟩
      have HX := Lib.hid hx; clear hx
      rcases xl.2.2.2 with e | ⟨b, off, rfl, hb, hrow⟩
      · exact absurd (by rw [← xl.1, e]; rfl) (Nat.ne_of_gt (Nat.lt_of_le_of_lt (Nat.zero_le k) hlt))
      · obtain ⟨x0, x1⟩ := x
        have c0 : wr.cell? ⟨b, off + k * 2, none⟩ = some (.int .i64 x0) := hrow k _ HX.out 0 _ rfl
        have c1 : wr.cell? ⟨b, off + k * 2 + 1, none⟩ = some (.int .i64 x1) := hrow k _ HX.out 1 _ rfl
        rcases hcase with ⟨hk0, rfl⟩ | ⟨m, hmk, rfl, hlm⟩
        · have HK := Lib.hid hk0; clear hk0 hrow
          go_wp2
          go_quiet (fail)
          go_wp2
          go_roundw
          case rel => exact ⟨k + 1, by omega, by go_num, (by (repeat (first | with_reducible assumption | with_reducible exact Kp.refl _ | with_reducible refine Kp.drew ?_ | with_reducible refine Kp.drewN ?_ _ | with_reducible refine Kp.alloc ?_ _ | ((with_reducible refine Kp.setCell ?_ ?_ _); rotate_left; (focus (first | omega | (simp; done) | (simp; omega)))) | with_reducible refine Kp.trans ?_ (by assumption)))), .inr ⟨k, by omega, rfl, by rw [HK.out]; exact leastTo_one l⟩⟩
          case measure => simp [intOf]; omega
        · obtain ⟨y, hy⟩ : ∃ y, l[m]? = some y := ⟨l[m]'(by rw [xl.1]; omega), List.getElem?_eq_getElem _⟩
          have HY := Lib.hid hy; clear hy
          obtain ⟨y0, y1⟩ := y
          have d0 : wr.cell? ⟨b, off + m * 2, none⟩ = some (.int .i64 y0) := hrow m _ HY.out 0 _ rfl
          have d1 : wr.cell? ⟨b, off + m * 2 + 1, none⟩ = some (.int .i64 y1) := hrow m _ HY.out 1 _ rfl
          have hcm : cmpAt l k m = cmpC x0 x1 y0 y1 := by unfold cmpAt; rw [costAt_of HX.out, costAt_of HY.out]
          have HC := Lib.hid hcm; clear hcm hrow
          have hml : m < len := by omega
          go_wp2_with fail
          
          refine named_world (F := fun w2 => Blk w2 wr.heap.size (ints [x0, x1]) 54 ∧ Kp wr w2) ⟨(by (repeat (first | with_reducible assumption | ((with_reducible refine Blk.newL ?_ ?_); (focus (first | (simp; done) | omega)); rfl) | with_reducible refine Blk.drew ?_ | with_reducible refine Blk.drewN ?_ _ | with_reducible refine Blk.alloc ?_ _ | ((with_reducible refine Blk.other ?_ ?_ _); rotate_left; (focus (first | with_reducible assumption | omega | (simp; done) | (simp; omega))))))), (by (repeat (first | with_reducible assumption | with_reducible exact Kp.refl _ | with_reducible refine Kp.drew ?_ | with_reducible refine Kp.drewN ?_ _ | with_reducible refine Kp.alloc ?_ _ | ((with_reducible refine Kp.setCell ?_ ?_ _); rotate_left; (focus (first | omega | (simp; done) | (simp; omega)))) | with_reducible refine Kp.trans ?_ (by assumption))))⟩ ?_; rintro w2 ⟨xc, kw2⟩; have xc_0 := xc.cell 0 rfl; have xc_1 := xc.cell 1 rfl; have xc_ne := xc.lt; have xc_n1 := Nat.lt_add_one_of_lt xc_ne; have xc_n2 := Nat.lt_add_one_of_lt xc_n1
          have e0 := (kw2.cell (p := ⟨b, off + m * 2, none⟩) hb).trans d0
          have e1 := (kw2.cell (p := ⟨b, off + m * 2 + 1, none⟩) hb).trans d1
          have hb2 : b < w2.heap.size := Nat.lt_of_lt_of_le hb kw2.size
          clear c0 c1 d0 d1
          by_cases hlt0 : cmpC x0 x1 y0 y1 < 0
          · go_region_held3 (fun w' => (∀ b o, b < w2.heap.size → w'.cell? ⟨b, o, none⟩ = w2.cell? ⟨b, o, none⟩) ∧ Kp w2 w') (first | with_reducible assumption | with_reducible exact held_start _ | with_reducible exact held_next (by assumption) (by assumption) | with_reducible exact held_alloc (by assumption) _ | with_reducible exact held_drew (by assumption) | exact held_store (by assumption) (by simp) _) (first
    | (go_at_call 69; go_must (refine (orderCmp_any _ _ _ _ _).mono ?_); rintro e w' ⟨rfl, kk⟩))
            all_goals
              go_wp2
              go_roundw
              case rel => exact ⟨k + 1, by omega, by go_num, (by (repeat (first | with_reducible assumption | with_reducible exact Kp.refl _ | with_reducible refine Kp.drew ?_ | with_reducible refine Kp.drewN ?_ _ | with_reducible refine Kp.alloc ?_ _ | ((with_reducible refine Kp.setCell ?_ ?_ _); rotate_left; (focus (first | omega | (simp; done) | (simp; omega)))) | with_reducible refine Kp.trans ?_ (by assumption)))), .inr ⟨k, by omega, rfl, leastTo_yes hlm.out (by rw [HC.out]; exact hlt0)⟩⟩
              case measure => simp [intOf]; omega
          · go_region_held3 (fun w' => (∀ b o, b < w2.heap.size → w'.cell? ⟨b, o, none⟩ = w2.cell? ⟨b, o, none⟩) ∧ Kp w2 w') (first | with_reducible assumption | with_reducible exact held_start _ | with_reducible exact held_next (by assumption) (by assumption) | with_reducible exact held_alloc (by assumption) _ | with_reducible exact held_drew (by assumption) | exact held_store (by assumption) (by simp) _) (first
    | (go_at_call 69; go_must (refine (orderCmp_any _ _ _ _ _).mono ?_); rintro e w' ⟨rfl, kk⟩))
            all_goals
              go_wp2
              go_roundw
              case rel => exact ⟨k + 1, by omega, by go_num, (by (repeat (first | with_reducible assumption | with_reducible exact Kp.refl _ | with_reducible refine Kp.drew ?_ | with_reducible refine Kp.drewN ?_ _ | with_reducible refine Kp.alloc ?_ _ | ((with_reducible refine Kp.setCell ?_ ?_ _); rotate_left; (focus (first | omega | (simp; done) | (simp; omega)))) | with_reducible refine Kp.trans ?_ (by assumption)))), .inr ⟨m, by omega, rfl, leastTo_no hlm.out (by rw [HC.out]; omega)⟩⟩
              case measure => simp [intOf]; omega
    · obtain rfl : k = len := by omega
      rcases hcase with ⟨hk0, rfl⟩ | ⟨m, hmk, rfl, hlm⟩
      · have hend : (-1 : Int) = leastTo l l.length := by rw [HL.out, hk0]; rfl
        have HE := Lib.hid hend; clear hend
        have HK := Lib.hid hk0; clear hk0
        go_wp2
        go_ret
        exact ⟨ret_int HE.out, (by (repeat (first | with_reducible assumption | with_reducible exact Kp.refl _ | with_reducible refine Kp.drew ?_ | with_reducible refine Kp.drewN ?_ _ | with_reducible refine Kp.alloc ?_ _ | ((with_reducible refine Kp.setCell ?_ ?_ _); rotate_left; (focus (first | omega | (simp; done) | (simp; omega)))) | with_reducible refine Kp.trans ?_ (by assumption))))⟩
      · have hend : (m : Int) = leastTo l l.length := by rw [HL.out]; exact hlm.out.symm
        have HE := Lib.hid hend; clear hend
        go_wp2
        go_ret
        exact ⟨ret_int HE.out, (by (repeat (first | with_reducible assumption | with_reducible exact Kp.refl _ | with_reducible refine Kp.drew ?_ | with_reducible refine Kp.drewN ?_ _ | with_reducible refine Kp.alloc ?_ _ | ((with_reducible refine Kp.setCell ?_ ?_ _); rotate_left; (focus (first | omega | (simp; done) | (simp; omega)))) | with_reducible refine Kp.trans ?_ (by assumption))))⟩
set_option maxHeartbeats 400000 in
theorem costLeast_any (a : Option Addr) (len cap : Nat) (l : List Cost) (w : World) (hl : SlOk w 2 Cost.cells a len cap l) :
    Calls Try.prog 45 #[.slice a len cap] w fun e w' => e = .returned (.int .i64 (leastTo l l.length)) ∧ Kp w w' := by
  go_enter Try.func45, Try.ntmps45
  go_wp2_with fail
  refine (least_any _ _ _ _ _ hl).mono ?_
  rintro e w1 ⟨rfl, k1⟩
  go_wp2
  go_ret
  exact ⟨rfl, (by (repeat (first | with_reducible assumption | with_reducible exact Kp.refl _ | with_reducible refine Kp.drew ?_ | with_reducible refine Kp.drewN ?_ _ | with_reducible refine Kp.alloc ?_ _ | ((with_reducible refine Kp.setCell ?_ ?_ _); rotate_left; (focus (first | omega | (simp; done) | (simp; omega)))) | with_reducible refine Kp.trans ?_ (by assumption))))⟩

set_option maxRecDepth 100000 in
set_option maxHeartbeats 1000000 in
theorem refLeast_any (a : Option Addr) (len cap : Nat) (l : List Cost) (w : World) (hl : SlOk w 2 Cost.cells a len cap l) :
    Calls Try.prog 46 #[.slice a len cap] w
      fun e w' => e = .returned (.int .i64 (leastTo l l.length)) ∧ Kp w w' := by
  have hm := hl.2.2.1
  have hc := hl.2.1
  unfold maxLen at hm
  go_enter Try.func46, Try.ntmps46
  go_wp2
  go_loopw [3, 4] (fun v5 v10 wr => ∃ k : Nat, k ≤ len ∧ v10 = .int .i64 k ∧ Kp w wr ∧ ((k = 0 ∧ v5 = .int .i64 (-1)) ∨ ∃ m : Nat, m < k ∧ v5 = .int .i64 m ∧ Hid (leastTo l k = m))) (fun _ v10 _ => len - (intOf v10).toNat)
  case atStart => exact ⟨0, by omega, rfl, (by (repeat (first | with_reducible assumption | with_reducible exact Kp.refl _ | with_reducible refine Kp.drew ?_ | with_reducible refine Kp.drewN ?_ _ | with_reducible refine Kp.alloc ?_ _ | ((with_reducible refine Kp.setCell ?_ ?_ _); rotate_left; (focus (first | omega | (simp; done) | (simp; omega)))) | with_reducible refine Kp.trans ?_ (by assumption)))), .inl ⟨rfl, rfl⟩⟩
  case round =>
    obtain ⟨k, hk, rfl, xk, hcase⟩ := hrel
    have xl := hl.kp xk
    have HL := Lib.hid xl.1
    by_cases hlt : k < len
    · obtain ⟨x, hx⟩ : ∃ x, l[k]? = some x := ⟨l[k]'(by rw [xl.1]; exact hlt), List.getElem?_eq_getElem _⟩
      have HX := Lib.hid hx; clear hx
      rcases xl.2.2.2 with e | ⟨b, off, rfl, hb, hrow⟩
      · exact absurd (by rw [← xl.1, e]; rfl) (Nat.ne_of_gt (Nat.lt_of_le_of_lt (Nat.zero_le k) hlt))
      · obtain ⟨x0, x1⟩ := x
        have c0 : wr.cell? ⟨b, off + k * 2, none⟩ = some (.int .i64 x0) := hrow k _ HX.out 0 _ rfl
        have c1 : wr.cell? ⟨b, off + k * 2 + 1, none⟩ = some (.int .i64 x1) := hrow k _ HX.out 1 _ rfl
        rcases hcase with ⟨hk0, rfl⟩ | ⟨m, hmk, rfl, hlm⟩
        · have HK := Lib.hid hk0; clear hk0 hrow
          go_wp2
          go_quiet (fail)
          go_wp2
          go_roundw
          case rel => exact ⟨k + 1, by omega, by go_num, (by (repeat (first | with_reducible assumption | with_reducible exact Kp.refl _ | with_reducible refine Kp.drew ?_ | with_reducible refine Kp.drewN ?_ _ | with_reducible refine Kp.alloc ?_ _ | ((with_reducible refine Kp.setCell ?_ ?_ _); rotate_left; (focus (first | omega | (simp; done) | (simp; omega)))) | with_reducible refine Kp.trans ?_ (by assumption)))), .inr ⟨k, by omega, rfl, by rw [HK.out]; exact leastTo_one l⟩⟩
          case measure => simp [intOf]; omega
        · obtain ⟨y, hy⟩ : ∃ y, l[m]? = some y := ⟨l[m]'(by rw [xl.1]; omega), List.getElem?_eq_getElem _⟩
          have HY := Lib.hid hy; clear hy
          obtain ⟨y0, y1⟩ := y
          have d0 : wr.cell? ⟨b, off + m * 2, none⟩ = some (.int .i64 y0) := hrow m _ HY.out 0 _ rfl
          have d1 : wr.cell? ⟨b, off + m * 2 + 1, none⟩ = some (.int .i64 y1) := hrow m _ HY.out 1 _ rfl
          have hcm : cmpAt l k m = cmpC x0 x1 y0 y1 := by unfold cmpAt; rw [costAt_of HX.out, costAt_of HY.out]
          have HC := Lib.hid hcm; clear hcm hrow
          have hml : m < len := by omega
          go_wp2_with fail
          by_cases hlt0 : cmpC x0 x1 y0 y1 < 0
          · go_region_held3 (fun w' => (∀ b o, b < wr.heap.size → w'.cell? ⟨b, o, none⟩ = wr.cell? ⟨b, o, none⟩) ∧ Kp wr w') (first | with_reducible assumption | with_reducible exact held_start _ | with_reducible exact held_next (by assumption) (by assumption) | with_reducible exact held_alloc (by assumption) _ | with_reducible exact held_drew (by assumption) | exact held_store (by assumption) (by simp) _) (first
    | (go_at_call 48; go_must (refine (refCmp_any _ _ _ _ _).mono ?_); rintro e w' ⟨rfl, kk⟩))
            all_goals
              go_wp2
              go_roundw
              case rel => exact ⟨k + 1, by omega, by go_num, (by (repeat (first | with_reducible assumption | with_reducible exact Kp.refl _ | with_reducible refine Kp.drew ?_ | with_reducible refine Kp.drewN ?_ _ | with_reducible refine Kp.alloc ?_ _ | ((with_reducible refine Kp.setCell ?_ ?_ _); rotate_left; (focus (first | omega | (simp; done) | (simp; omega)))) | with_reducible refine Kp.trans ?_ (by assumption)))), .inr ⟨k, by omega, rfl, leastTo_yes hlm.out (by rw [HC.out]; exact hlt0)⟩⟩
              case measure => simp [intOf]; omega
          · go_region_held3 (fun w' => (∀ b o, b < wr.heap.size → w'.cell? ⟨b, o, none⟩ = wr.cell? ⟨b, o, none⟩) ∧ Kp wr w') (first | with_reducible assumption | with_reducible exact held_start _ | with_reducible exact held_next (by assumption) (by assumption) | with_reducible exact held_alloc (by assumption) _ | with_reducible exact held_drew (by assumption) | exact held_store (by assumption) (by simp) _) (first
    | (go_at_call 48; go_must (refine (refCmp_any _ _ _ _ _).mono ?_); rintro e w' ⟨rfl, kk⟩))
            all_goals
              go_wp2
              go_roundw
              case rel => exact ⟨k + 1, by omega, by go_num, (by (repeat (first | with_reducible assumption | with_reducible exact Kp.refl _ | with_reducible refine Kp.drew ?_ | with_reducible refine Kp.drewN ?_ _ | with_reducible refine Kp.alloc ?_ _ | ((with_reducible refine Kp.setCell ?_ ?_ _); rotate_left; (focus (first | omega | (simp; done) | (simp; omega)))) | with_reducible refine Kp.trans ?_ (by assumption)))), .inr ⟨m, by omega, rfl, leastTo_no hlm.out (by rw [HC.out]; omega)⟩⟩
              case measure => simp [intOf]; omega
    · obtain rfl : k = len := by omega
      rcases hcase with ⟨hk0, rfl⟩ | ⟨m, hmk, rfl, hlm⟩
      · have hend : (-1 : Int) = leastTo l l.length := by rw [HL.out, hk0]; rfl
        have HE := Lib.hid hend; clear hend
        have HK := Lib.hid hk0; clear hk0
        go_wp2
        go_ret
        exact ⟨ret_int HE.out, (by (repeat (first | with_reducible assumption | with_reducible exact Kp.refl _ | with_reducible refine Kp.drew ?_ | with_reducible refine Kp.drewN ?_ _ | with_reducible refine Kp.alloc ?_ _ | ((with_reducible refine Kp.setCell ?_ ?_ _); rotate_left; (focus (first | omega | (simp; done) | (simp; omega)))) | with_reducible refine Kp.trans ?_ (by assumption))))⟩
      · have hend : (m : Int) = leastTo l l.length := by rw [HL.out]; exact hlm.out.symm
        have HE := Lib.hid hend; clear hend
        go_wp2
        go_ret
        exact ⟨ret_int HE.out, (by (repeat (first | with_reducible assumption | with_reducible exact Kp.refl _ | with_reducible refine Kp.drew ?_ | with_reducible refine Kp.drewN ?_ _ | with_reducible refine Kp.alloc ?_ _ | ((with_reducible refine Kp.setCell ?_ ?_ _); rotate_left; (focus (first | omega | (simp; done) | (simp; omega)))) | with_reducible refine Kp.trans ?_ (by assumption))))⟩

/-- Costs added from the left on. -/
def allC (x : Cost) : List Cost → Cost
  | [] => x
  | y :: r => allC ⟨add1 x.over y.over, add1 x.sum y.sum⟩ r
theorem allC_append (l : List Cost) (y : Cost) : ∀ x, allC x (l ++ [y]) = ⟨add1 (allC x l).over y.over, add1 (allC x l).sum y.sum⟩ := by
  induction l with
  | nil => intro x; rfl
  | cons a r ih => intro x; exact ih _
theorem add1_bounds (a b : Int) : 0 ≤ add1 a b ∧ add1 a b ≤ 1125899906842624 := held_bounds _
end Go.Proofs.Ytfiofmlfceknaaa
