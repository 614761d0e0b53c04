/- A column's cost: cost.Of and the reference's. -/
import Derived.Test.YtfiofmlfceknaaaCostSum
import Derived.Test.YtfiofmlfceknaaaTypesA
namespace Go.Proofs.Ytfiofmlfceknaaa
open Go.ChangeShapes Go.WideShapes Go.ChangeAt Go.RowKit

/-- A number as a cell. -/
def enc1 (x : Int) : List Value := [.int .i64 x]
theorem enc1_of {cs : List Value} (h : Open.allOk [.int .i64] cs) : ∃ x : Int, cs = enc1 x ∧ I64 x := by
  obtain _ | ⟨c, cs⟩ := cs; · exact absurd h id
  obtain _ | ⟨c', cs⟩ := cs; rotate_left; · exact absurd h.2 id
  obtain ⟨⟨x, rfl, w⟩, _⟩ := h
  exact ⟨x, rfl, Open.i64_of w⟩
theorem Open.flat_i64 : Open.flatK Try.prog 4 2 = some [.int .i64] := by kernel_rfl
set_option maxRecDepth 100000 in
theorem Open.open_nums {H : Type} {enc : TypeId × Value → H} {w : World} {r : Reach} {b0 : Nat} {v : Value} {d : DataW H} {p : List MemPlace}
    (hv : Value.okWide Try.prog w r b0 69 v) (h : DataW.Trod enc Try.prog w 0 (fun _ => true) true 69 v d p) : ∃ x : SlV Int, v = x.v ∧ (SlOk w 1 enc1 x.a x.len x.cap x.l ∧ ∀ y, y ∈ x.l → I64 y) := by
  have hc : Try.prog.cellsOf 2 = 1 := by kernel_rfl
  obtain ⟨a, len, cap, l, hv', hs, ho⟩ := Open.open_sl 4 Try.underlying69 hc (by decide) Open.flat_i64 (ok := I64) (fun cs hcs => enc1_of hcs) hv h
  exact ⟨⟨a, len, cap, l⟩, hv', hs, ho⟩

/-- A demerit as a cost. -/
def demC (n : Int) : Cost := ⟨0, n⟩
def ofC (o : Bool) (l : List Int) : Cost := allC ⟨if o then 1 else 0, 0⟩ (l.map demC)
theorem allC_map_snoc {l : List Int} {k : Nat} {x : Int} (h : l[k]? = some x) (c : Cost) : allC c ((l.take (k + 1)).map demC) = ⟨add1 (allC c ((l.take k).map demC)).over 0, add1 (allC c ((l.take k).map demC)).sum x⟩ := by
  rw [take_snocC h, List.map_append, List.map_singleton, allC_append]; rfl

set_option maxRecDepth 100000 in
set_option maxHeartbeats 1000000 in
theorem costOf_any (o : Bool) (a : Option Addr) (len cap : Nat) (l : List Int) (w : World) (hl : SlOk w 1 enc1 a len cap l) :
    Calls Try.prog 50 #[.bool o, .slice a len cap] w
      fun e w' => e = .returned (.agg #[.int .i64 (ofC o l).over, .int .i64 (ofC o l).sum]) ∧ Kp w w' := by
  have hm := hl.2.2.1
  have hc := hl.2.1
  unfold maxLen at hm
  have P1 : add1 0 1 = 1 := by decide
  have P0 : add1 0 0 = 0 := by decide
  go_enter Try.func50, Try.ntmps50
  go_upto_if 10 with (fail)
  go_cut [] (fun wc => ∃ s0 : Int, s0 = (if o then 1 else 0 : Int) ∧ Blk wc w.heap.size (ints [0, 0]) 54 ∧ Blk wc (w.heap.size + 1) (ints [s0, 0]) 61 ∧ Kp w wc)
  case first =>
    cases o with
    | false =>
      go_wp2
      go_meet
      case rel => exact ⟨0, rfl, (by (repeat (first | with_reducible assumption | ((with_reducible refine Blk.newL ?_ ?_); (focus (first | (simp; done) | omega)); rfl) | with_reducible refine Blk.drew ?_ | with_reducible refine Blk.drewN ?_ _ | with_reducible refine Blk.alloc ?_ _ | ((with_reducible refine Blk.other ?_ ?_ _); rotate_left; (focus (first | with_reducible assumption | omega | (simp; done) | (simp; omega))))))), (by (repeat (first | with_reducible assumption | ((with_reducible refine Blk.newL ?_ ?_); (focus (first | (simp; done) | omega)); rfl) | with_reducible refine Blk.drew ?_ | with_reducible refine Blk.drewN ?_ _ | with_reducible refine Blk.alloc ?_ _ | ((with_reducible refine Blk.other ?_ ?_ _); rotate_left; (focus (first | with_reducible assumption | omega | (simp; done) | (simp; omega))))))), (by (repeat (first | with_reducible assumption | with_reducible exact Kp.refl _ | with_reducible refine Kp.drew ?_ | with_reducible refine Kp.drewN ?_ _ | with_reducible refine Kp.alloc ?_ _ | ((with_reducible refine Kp.setCell ?_ ?_ _); rotate_left; (focus (first | omega | (simp; done) | (simp; omega)))) | with_reducible refine Kp.trans ?_ (by assumption))))⟩
    | true =>
      
      
      refine named_world (F := fun w2 => Blk w2 w.heap.size (ints [0, 0]) 54 ∧ Blk w2 (w.heap.size + 1) (ints [0, 0]) 61 ∧ Kp w w2) ⟨(by (repeat (first | with_reducible assumption | ((with_reducible refine Blk.newL ?_ ?_); (focus (first | (simp; done) | omega)); rfl) | with_reducible refine Blk.drew ?_ | with_reducible refine Blk.drewN ?_ _ | with_reducible refine Blk.alloc ?_ _ | ((with_reducible refine Blk.other ?_ ?_ _); rotate_left; (focus (first | with_reducible assumption | omega | (simp; done) | (simp; omega))))))), (by (repeat (first | with_reducible assumption | ((with_reducible refine Blk.newL ?_ ?_); (focus (first | (simp; done) | omega)); rfl) | with_reducible refine Blk.drew ?_ | with_reducible refine Blk.drewN ?_ _ | with_reducible refine Blk.alloc ?_ _ | ((with_reducible refine Blk.other ?_ ?_ _); rotate_left; (focus (first | with_reducible assumption | omega | (simp; done) | (simp; omega))))))), (by (repeat (first | with_reducible assumption | with_reducible exact Kp.refl _ | with_reducible refine Kp.drew ?_ | with_reducible refine Kp.drewN ?_ _ | with_reducible refine Kp.alloc ?_ _ | ((with_reducible refine Kp.setCell ?_ ?_ _); rotate_left; (focus (first | omega | (simp; done) | (simp; omega)))) | with_reducible refine Kp.trans ?_ (by assumption))))⟩ ?_; rintro w2 ⟨xr, xs, kw2⟩; have xr_0 := xr.cell 0 rfl; have xr_1 := xr.cell 1 rfl; have xr_ne := xr.lt; have xr_n1 := Nat.lt_add_one_of_lt xr_ne; have xr_n2 := Nat.lt_add_one_of_lt xr_n1; have xs_0 := xs.cell 0 rfl; have xs_1 := xs.cell 1 rfl; have xs_ne := xs.lt; have xs_n1 := Nat.lt_add_one_of_lt xs_ne; have xs_n2 := Nat.lt_add_one_of_lt xs_n1
      go_wp2_with fail
      refine (costPut_any _ _ _ _ _ _ xs).mono ?_
      rintro e w1 ⟨rfl, w0, k0, hw1⟩
      have b0 := xs.kp k0
      have b1 : Blk w1 (w.heap.size + 1) (ints [add1 0 1, add1 0 0]) 61 := by subst hw1; exact (b0.set 0 _).set 1 _
      have c0 := xr.kp k0
      have c1 : Blk w1 w.heap.size (ints [0, 0]) 54 := by subst hw1; exact (by (repeat (first | with_reducible assumption | ((with_reducible refine Blk.newL ?_ ?_); (focus (first | (simp; done) | omega)); rfl) | with_reducible refine Blk.drew ?_ | with_reducible refine Blk.drewN ?_ _ | with_reducible refine Blk.alloc ?_ _ | ((with_reducible refine Blk.other ?_ ?_ _); rotate_left; (focus (first | with_reducible assumption | omega | (simp; done) | (simp; omega)))))))
      have k1 : Kp w w1 := by subst hw1; exact (by (repeat (first | with_reducible assumption | with_reducible exact Kp.refl _ | with_reducible refine Kp.drew ?_ | with_reducible refine Kp.drewN ?_ _ | with_reducible refine Kp.alloc ?_ _ | ((with_reducible refine Kp.setCell ?_ ?_ _); rotate_left; (focus (first | omega | (simp; done) | (simp; omega)))) | with_reducible refine Kp.trans ?_ (by assumption))))
      rw [P1, P0] at b1
      clear b0 c0 k0 hw1
      go_wp2
      go_meet
      case rel => exact ⟨1, rfl, c1, b1, k1⟩
  case rest =>
    obtain ⟨s, hs, xr, xs, xk⟩ := hcut
    go_wp2
    go_loopw [16] (fun v16 wr => ∃ (k : Nat) (s0 s1 : Int), k ≤ len ∧ v16 = .int .i64 k ∧ Blk wr w.heap.size (ints [0, 0]) 54 ∧ Blk wr (w.heap.size + 1) (ints [s0, s1]) 61 ∧ Kp w wr ∧ Hid (allC ⟨s, 0⟩ ((l.take k).map demC) = ⟨s0, s1⟩)) (fun v16 _ => len - (intOf v16).toNat)
    case atStart => exact ⟨0, s, 0, by omega, rfl, (by (repeat (first | with_reducible assumption | ((with_reducible refine Blk.newL ?_ ?_); (focus (first | (simp; done) | omega)); rfl) | with_reducible refine Blk.drew ?_ | with_reducible refine Blk.drewN ?_ _ | with_reducible refine Blk.alloc ?_ _ | ((with_reducible refine Blk.other ?_ ?_ _); rotate_left; (focus (first | with_reducible assumption | omega | (simp; done) | (simp; omega))))))), (by (repeat (first | with_reducible assumption | ((with_reducible refine Blk.newL ?_ ?_); (focus (first | (simp; done) | omega)); rfl) | with_reducible refine Blk.drew ?_ | with_reducible refine Blk.drewN ?_ _ | with_reducible refine Blk.alloc ?_ _ | ((with_reducible refine Blk.other ?_ ?_ _); rotate_left; (focus (first | with_reducible assumption | omega | (simp; done) | (simp; omega))))))), (by (repeat (first | with_reducible assumption | with_reducible exact Kp.refl _ | with_reducible refine Kp.drew ?_ | with_reducible refine Kp.drewN ?_ _ | with_reducible refine Kp.alloc ?_ _ | ((with_reducible refine Kp.setCell ?_ ?_ _); rotate_left; (focus (first | omega | (simp; done) | (simp; omega)))) | with_reducible refine Kp.trans ?_ (by assumption)))), rfl⟩
    case round =>
      clear xr xs xk
      obtain ⟨k, s0, s1, hk, rfl, xr, xs, xk, hS⟩ := hrel
      have xl := hl.kp xk
      have HL := Lib.hid xl.1
      by_cases hlt : k < len
      · obtain ⟨x, hx⟩ : ∃ x, l[k]? = some x := ⟨l[k]'(by rw [xl.1]; exact hlt), List.getElem?_eq_getElem _⟩
        have HX := Lib.hid hx; clear hx
        rcases xl.2.2.2 with e | ⟨b, off, rfl, hb, hrow⟩
        · exact absurd (by rw [← xl.1, e]; rfl) (Nat.ne_of_gt (Nat.lt_of_le_of_lt (Nat.zero_le k) hlt))
        · have c0 : wr.cell? ⟨b, off + k, none⟩ = some (.int .i64 x) := by
            have h := hrow k _ HX.out 0 _ rfl
            rw [Nat.mul_one] at h; exact h
          have hnext := allC_map_snoc HX.out ⟨s, 0⟩
          rw [hS.out] at hnext
          have HN := Lib.hid hnext; clear hnext hrow
          go_wp2_with fail
          refine (costPut_any _ _ _ _ _ _ xs).mono ?_
          rintro e w1 ⟨rfl, w0, k0, hw1⟩
          have b0 := xs.kp k0
          have b1 : Blk w1 (w.heap.size + 1) (ints [add1 s0 0, add1 s1 x]) 61 := by subst hw1; exact (b0.set 0 _).set 1 _
          have d0 := xr.kp k0
          have d1 : Blk w1 w.heap.size (ints [0, 0]) 54 := by subst hw1; exact (by (repeat (first | with_reducible assumption | ((with_reducible refine Blk.newL ?_ ?_); (focus (first | (simp; done) | omega)); rfl) | with_reducible refine Blk.drew ?_ | with_reducible refine Blk.drewN ?_ _ | with_reducible refine Blk.alloc ?_ _ | ((with_reducible refine Blk.other ?_ ?_ _); rotate_left; (focus (first | with_reducible assumption | omega | (simp; done) | (simp; omega)))))))
          have k1 : Kp w w1 := by subst hw1; exact (by (repeat (first | with_reducible assumption | with_reducible exact Kp.refl _ | with_reducible refine Kp.drew ?_ | with_reducible refine Kp.drewN ?_ _ | with_reducible refine Kp.alloc ?_ _ | ((with_reducible refine Kp.setCell ?_ ?_ _); rotate_left; (focus (first | omega | (simp; done) | (simp; omega)))) | with_reducible refine Kp.trans ?_ (by assumption))))
          clear xr xs xk xl b0 d0 k0 hw1 c0
          go_wp2
          go_roundw
          case rel => exact ⟨k + 1, _, _, by omega, by go_num, (by (repeat (first | with_reducible assumption | ((with_reducible refine Blk.newL ?_ ?_); (focus (first | (simp; done) | omega)); rfl) | with_reducible refine Blk.drew ?_ | with_reducible refine Blk.drewN ?_ _ | with_reducible refine Blk.alloc ?_ _ | ((with_reducible refine Blk.other ?_ ?_ _); rotate_left; (focus (first | with_reducible assumption | omega | (simp; done) | (simp; omega))))))), (by (repeat (first | with_reducible assumption | ((with_reducible refine Blk.newL ?_ ?_); (focus (first | (simp; done) | omega)); rfl) | with_reducible refine Blk.drew ?_ | with_reducible refine Blk.drewN ?_ _ | with_reducible refine Blk.alloc ?_ _ | ((with_reducible refine Blk.other ?_ ?_ _); rotate_left; (focus (first | with_reducible assumption | omega | (simp; done) | (simp; omega))))))), (by (repeat (first | with_reducible assumption | with_reducible exact Kp.refl _ | with_reducible refine Kp.drew ?_ | with_reducible refine Kp.drewN ?_ _ | with_reducible refine Kp.alloc ?_ _ | ((with_reducible refine Kp.setCell ?_ ?_ _); rotate_left; (focus (first | omega | (simp; done) | (simp; omega)))) | with_reducible refine Kp.trans ?_ (by assumption)))), HN.out⟩
          case measure => simp [intOf]; omega
      · obtain rfl : k = len := by omega
        have hlast := hS.out
        rw [List.take_of_length_le (Nat.le_of_eq HL.out)] at hlast
        have HE : Hid (Ending.returned (.agg #[.int .i64 s0, .int .i64 s1]) = .returned (.agg #[.int .i64 (ofC o l).over, .int .i64 (ofC o l).sum])) := by unfold ofC; rw [← hs, hlast]; rfl
        clear hlast xl hs
        go_wp2_with fail
        refine (costCost_any _ _ _ _ xs).mono ?_
        rintro e w1 ⟨rfl, k1⟩
        have zr := xr.kp k1
        have f0 := zr.free 0; have f1 := zr.free 1
        have g0 := zr.cell 0 rfl; have g1 := zr.cell 1 rfl
        go_wp2
        refine ret_blk (vs := [.int .i64 s0, .int .i64 s1]) (Blk.set (Blk.set zr 0 _) 1 _) ?_ rfl ⟨HE.out, (by (repeat (first | with_reducible assumption | with_reducible exact Kp.refl _ | with_reducible refine Kp.drew ?_ | with_reducible refine Kp.drewN ?_ _ | with_reducible refine Kp.alloc ?_ _ | ((with_reducible refine Kp.setCell ?_ ?_ _); rotate_left; (focus (first | omega | (simp; done) | (simp; omega)))) | with_reducible refine Kp.trans ?_ (by assumption))))⟩; intro wz bz; have z0 := bz.cell 0 rfl; have z1 := bz.cell 1 rfl; simp [results, Try.results50, go_sem, z0, z1]

set_option maxRecDepth 100000 in
set_option maxHeartbeats 1000000 in
theorem refOf_any (o : Bool) (a : Option Addr) (len cap : Nat) (l : List Int) (w : World) (hl : SlOk w 1 enc1 a len cap l) (hok : ∀ x, x ∈ l → I64 x) :
    Calls Try.prog 51 #[.bool o, .slice a len cap] w
      fun e w' => e = .returned (.agg #[.int .i64 (ofC o l).over, .int .i64 (ofC o l).sum]) ∧ Kp w w' := by
  have hm := hl.2.2.1
  have hc := hl.2.1
  unfold maxLen at hm
  have HO := Lib.hid hok; clear hok
  go_enter Try.func51, Try.ntmps51
  go_upto_if 7 with (fail)
  go_cut [] (fun wc => ∃ s0 : Int, (s0 = (if o then 1 else 0 : Int) ∧ I64 s0) ∧ Blk wc w.heap.size (ints [0, 0]) 54 ∧ Blk wc (w.heap.size + 1) (ints [s0, 0]) 54 ∧ Kp w wc)
  case first =>
    cases o with
    | false =>
      go_wp2
      go_meet
      case rel => exact ⟨0, ⟨rfl, by decide, by decide⟩, (by (repeat (first | with_reducible assumption | ((with_reducible refine Blk.newL ?_ ?_); (focus (first | (simp; done) | omega)); rfl) | with_reducible refine Blk.drew ?_ | with_reducible refine Blk.drewN ?_ _ | with_reducible refine Blk.alloc ?_ _ | ((with_reducible refine Blk.other ?_ ?_ _); rotate_left; (focus (first | with_reducible assumption | omega | (simp; done) | (simp; omega))))))), (by (repeat (first | with_reducible assumption | ((with_reducible refine Blk.newL ?_ ?_); (focus (first | (simp; done) | omega)); rfl) | with_reducible refine Blk.drew ?_ | with_reducible refine Blk.drewN ?_ _ | with_reducible refine Blk.alloc ?_ _ | ((with_reducible refine Blk.other ?_ ?_ _); rotate_left; (focus (first | with_reducible assumption | omega | (simp; done) | (simp; omega))))))), (by (repeat (first | with_reducible assumption | with_reducible exact Kp.refl _ | with_reducible refine Kp.drew ?_ | with_reducible refine Kp.drewN ?_ _ | with_reducible refine Kp.alloc ?_ _ | ((with_reducible refine Kp.setCell ?_ ?_ _); rotate_left; (focus (first | omega | (simp; done) | (simp; omega)))) | with_reducible refine Kp.trans ?_ (by assumption))))⟩
    | true =>
      
      
      refine named_world (F := fun w2 => Blk w2 w.heap.size (ints [0, 0]) 54 ∧ Blk w2 (w.heap.size + 1) (ints [0, 0]) 54 ∧ Kp w w2) ⟨(by (repeat (first | with_reducible assumption | ((with_reducible refine Blk.newL ?_ ?_); (focus (first | (simp; done) | omega)); rfl) | with_reducible refine Blk.drew ?_ | with_reducible refine Blk.drewN ?_ _ | with_reducible refine Blk.alloc ?_ _ | ((with_reducible refine Blk.other ?_ ?_ _); rotate_left; (focus (first | with_reducible assumption | omega | (simp; done) | (simp; omega))))))), (by (repeat (first | with_reducible assumption | ((with_reducible refine Blk.newL ?_ ?_); (focus (first | (simp; done) | omega)); rfl) | with_reducible refine Blk.drew ?_ | with_reducible refine Blk.drewN ?_ _ | with_reducible refine Blk.alloc ?_ _ | ((with_reducible refine Blk.other ?_ ?_ _); rotate_left; (focus (first | with_reducible assumption | omega | (simp; done) | (simp; omega))))))), (by (repeat (first | with_reducible assumption | with_reducible exact Kp.refl _ | with_reducible refine Kp.drew ?_ | with_reducible refine Kp.drewN ?_ _ | with_reducible refine Kp.alloc ?_ _ | ((with_reducible refine Kp.setCell ?_ ?_ _); rotate_left; (focus (first | omega | (simp; done) | (simp; omega)))) | with_reducible refine Kp.trans ?_ (by assumption))))⟩ ?_; rintro w2 ⟨xr, xs, kw2⟩; have xr_0 := xr.cell 0 rfl; have xr_1 := xr.cell 1 rfl; have xr_ne := xr.lt; have xr_n1 := Nat.lt_add_one_of_lt xr_ne; have xr_n2 := Nat.lt_add_one_of_lt xr_n1; have xs_0 := xs.cell 0 rfl; have xs_1 := xs.cell 1 rfl; have xs_ne := xs.lt; have xs_n1 := Nat.lt_add_one_of_lt xs_ne; have xs_n2 := Nat.lt_add_one_of_lt xs_n1
      have f0 := xs.free 0; have f1 := xs.free 1
      go_wp2
      go_meet
      case rel => exact ⟨1, ⟨rfl, by decide, by decide⟩, (by (repeat (first | with_reducible assumption | ((with_reducible refine Blk.newL ?_ ?_); (focus (first | (simp; done) | omega)); rfl) | with_reducible refine Blk.drew ?_ | with_reducible refine Blk.drewN ?_ _ | with_reducible refine Blk.alloc ?_ _ | ((with_reducible refine Blk.other ?_ ?_ _); rotate_left; (focus (first | with_reducible assumption | omega | (simp; done) | (simp; omega))))))), xs.set 0 _, (by (repeat (first | with_reducible assumption | with_reducible exact Kp.refl _ | with_reducible refine Kp.drew ?_ | with_reducible refine Kp.drewN ?_ _ | with_reducible refine Kp.alloc ?_ _ | ((with_reducible refine Kp.setCell ?_ ?_ _); rotate_left; (focus (first | omega | (simp; done) | (simp; omega)))) | with_reducible refine Kp.trans ?_ (by assumption))))⟩
  case rest =>
    obtain ⟨s, hs, xr, xs, xk⟩ := hcut
    go_wp2
    go_loopw [6] (fun v6 wr => ∃ (k : Nat) (s0 s1 : Int), k ≤ len ∧ v6 = .int .i64 k ∧ Blk wr w.heap.size (ints [0, 0]) 54 ∧ Blk wr (w.heap.size + 1) (ints [s0, s1]) 54 ∧ Kp w wr ∧ Hid (allC ⟨s, 0⟩ ((l.take k).map demC) = ⟨s0, s1⟩ ∧ I64 s0 ∧ I64 s1)) (fun v6 _ => len - (intOf v6).toNat)
    case atStart => exact ⟨0, s, 0, by omega, rfl, (by (repeat (first | with_reducible assumption | ((with_reducible refine Blk.newL ?_ ?_); (focus (first | (simp; done) | omega)); rfl) | with_reducible refine Blk.drew ?_ | with_reducible refine Blk.drewN ?_ _ | with_reducible refine Blk.alloc ?_ _ | ((with_reducible refine Blk.other ?_ ?_ _); rotate_left; (focus (first | with_reducible assumption | omega | (simp; done) | (simp; omega))))))), (by (repeat (first | with_reducible assumption | ((with_reducible refine Blk.newL ?_ ?_); (focus (first | (simp; done) | omega)); rfl) | with_reducible refine Blk.drew ?_ | with_reducible refine Blk.drewN ?_ _ | with_reducible refine Blk.alloc ?_ _ | ((with_reducible refine Blk.other ?_ ?_ _); rotate_left; (focus (first | with_reducible assumption | omega | (simp; done) | (simp; omega))))))), (by (repeat (first | with_reducible assumption | with_reducible exact Kp.refl _ | with_reducible refine Kp.drew ?_ | with_reducible refine Kp.drewN ?_ _ | with_reducible refine Kp.alloc ?_ _ | ((with_reducible refine Kp.setCell ?_ ?_ _); rotate_left; (focus (first | omega | (simp; done) | (simp; omega)))) | with_reducible refine Kp.trans ?_ (by assumption)))), rfl, hs.2, ⟨by decide, by decide⟩⟩
    case round =>
      clear xr xs xk
      obtain ⟨k, s0, s1, hk, rfl, xr, xs, xk, hS⟩ := hrel
      have xl := hl.kp xk
      have HL := Lib.hid xl.1
      have y0 := xs.cell 0 rfl; have y1 := xs.cell 1 rfl
      by_cases hlt : k < len
      · obtain ⟨x, hx⟩ : ∃ x, l[k]? = some x := ⟨l[k]'(by rw [xl.1]; exact hlt), List.getElem?_eq_getElem _⟩
        have HX := Lib.hid hx; clear hx
        rcases xl.2.2.2 with e | ⟨b, off, rfl, hb, hrow⟩
        · exact absurd (by rw [← xl.1, e]; rfl) (Nat.ne_of_gt (Nat.lt_of_le_of_lt (Nat.zero_le k) hlt))
        · have c0 : wr.cell? ⟨b, off + k, none⟩ = some (.int .i64 x) := by
            have h := hrow k _ HX.out 0 _ rfl
            rw [Nat.mul_one] at h; exact h
          have hnext := allC_map_snoc HX.out ⟨s, 0⟩
          rw [hS.out.1] at hnext
          have HN := Lib.hid hnext; clear hnext hrow
          have OKX := Lib.hid (HO.out _ (List.mem_of_getElem? HX.out))
          have Z : Hid (I64 0) := Lib.hid ⟨by decide, by decide⟩
          go_wp2
          go_region_with (first
            | (go_at_call 47; refine (refCostAdd_any _ _ _ _ _ hS.out.2.1 hS.out.2.2 Z.out OKX.out).mono ?_; rintro e w' ⟨rfl, kk⟩; have zs := Blk.kp (xs.drew) kk; have z0 := zs.cell 0 rfl; have z1 := zs.cell 1 rfl; have f0 := zs.free 0; have f1 := zs.free 1))
          all_goals
            have zr := Blk.kp (xr.drew) kk
            have zk := Kp.trans (xk.drew) kk
            clear c0
            go_wp2
            go_roundw
            case rel =>
              refine ⟨k + 1, _, _, by omega, by go_num, ?_, (zs.set 0 _).set 1 _, (by (repeat (first | with_reducible assumption | with_reducible exact Kp.refl _ | with_reducible refine Kp.drew ?_ | with_reducible refine Kp.drewN ?_ _ | with_reducible refine Kp.alloc ?_ _ | ((with_reducible refine Kp.setCell ?_ ?_ _); rotate_left; (focus (first | omega | (simp; done) | (simp; omega)))) | with_reducible refine Kp.trans ?_ (by assumption)))), HN.out, ?_, ?_⟩
              · (repeat (first | with_reducible assumption | ((with_reducible refine Blk.newL ?_ ?_); (focus (first | (simp; done) | omega)); rfl) | with_reducible refine Blk.drew ?_ | with_reducible refine Blk.drewN ?_ _ | with_reducible refine Blk.alloc ?_ _ | ((with_reducible refine Blk.other ?_ ?_ _); rotate_left; (focus (first | with_reducible assumption | omega | (simp; done) | (simp; omega))))))
              · exact ⟨by have := add1_bounds s0 0; omega, by have := add1_bounds s0 0; omega⟩
              · exact ⟨by have := add1_bounds s1 x; omega, by have := add1_bounds s1 x; omega⟩
            case measure => simp [intOf]; omega
      · obtain rfl : k = len := by omega
        have hlast := hS.out.1
        rw [List.take_of_length_le (Nat.le_of_eq HL.out)] at hlast
        have HE : Hid (Ending.returned (.agg #[.int .i64 s0, .int .i64 s1]) = .returned (.agg #[.int .i64 (ofC o l).over, .int .i64 (ofC o l).sum])) := by unfold ofC; rw [← hs.1, hlast]; rfl
        clear hlast xl hs
        have f0 := xr.free 0; have f1 := xr.free 1
        have g0 := xr.cell 0 rfl; have g1 := xr.cell 1 rfl
        go_wp2
        refine ret_blk (vs := [.int .i64 s0, .int .i64 s1]) (Blk.set (Blk.set xr 0 _) 1 _) ?_ rfl ⟨HE.out, (by (repeat (first | with_reducible assumption | with_reducible exact Kp.refl _ | with_reducible refine Kp.drew ?_ | with_reducible refine Kp.drewN ?_ _ | with_reducible refine Kp.alloc ?_ _ | ((with_reducible refine Kp.setCell ?_ ?_ _); rotate_left; (focus (first | omega | (simp; done) | (simp; omega)))) | with_reducible refine Kp.trans ?_ (by assumption))))⟩; intro wz bz; have z0 := bz.cell 0 rfl; have z1 := bz.cell 1 rfl; simp [results, Try.results51, go_sem, z0, z1]
end Go.Proofs.Ytfiofmlfceknaaa
