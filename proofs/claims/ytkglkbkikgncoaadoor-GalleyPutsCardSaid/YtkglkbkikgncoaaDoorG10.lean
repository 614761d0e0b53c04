/- The document's lines: a line's numbers. -/
import Derived.Test.YtkglkbkikgncoaaDoorG9

namespace Go.Proofs.YtkglkbkikgncoaaDoor

open Go.ChangeShapes Go.WideShapes Go.ChangeAt Go.RowKit Go.Shelf

def valsL (s : List UInt8) : List Int := (splitW s).tail.map valueL
def numsL (s : List UInt8) : List Int := valsL s ++ List.replicate (6 - (valsL s).length) 0
def lenV : Value → Nat
  | .slice _ n _ => n
  | _ => 0
theorem Row.low {α : Type} {w : World} {base base' n : Nat} {e : TypeId} {enc : α → List Value} {v : Value} {l : List α} (h : Row w base e n enc v l) (hb : base' ≤ base) : Row w base' e n enc v l := by
  refine ⟨h.1, ?_⟩
  rcases h.2 with hh | ⟨g, cap, cur, rfl, hg, rest⟩
  · exact .inl hh
  · exact .inr ⟨g, cap, cur, rfl, Nat.le_trans hb hg, rest⟩
theorem infoInt : (Tryd.prog.info? 3).map (fun i => (i.zero, i.size, i.bytes)) = some (some (.int .i64 0), 1, 8) := by kernel_rfl
set_option maxRecDepth 100000 in
set_option maxHeartbeats 8000000 in
theorem nums_any (s : List UInt8) (hs : s.length ≤ 10000) (w : World) :
    Calls Tryd.prog 27 #[sv s] w fun e w' => ∃ v, e = .returned v ∧ Row w' w.heap.size 3 1 enc1 v (numsL s) ∧ Kp w w' := by
  have hwl := splitW_len s
  have HSH := Lib.hid (fun x hx => splitW_short (s := s) (x := x) hx)
  have HNE := Lib.hid (splitW_ne s)
  have hvl : valsL s = ((splitW s).drop 1).map valueL := by unfold valsL; rw [List.drop_one]
  have CW := Lib.hid (words_any s hs w)
  obtain ⟨ws, hws⟩ : ∃ ws, splitW s = ws := ⟨_, rfl⟩
  rw [hws] at hwl HSH HNE hvl CW
  unfold numsL
  have hpos := List.length_pos_iff.2 HNE.out
  obtain ⟨V, hV⟩ : ∃ V, valsL s = V := ⟨_, rfl⟩
  rw [hV] at hvl ⊢
  have hVl : V.length + 1 = ws.length := by rw [hvl, List.length_map, List.length_drop]; omega
  have HVL := Lib.hid hvl
  clear hws hV hvl
  go_enter Tryd.func27, Tryd.ntmps27
  go_wp2_with fail
  refine CW.out.mono ?_
  rintro e w1 ⟨v1, rfl, hr1, k1⟩
  obtain ⟨a1, c1, rfl, s1'⟩ := hr1.sl (fun _ => rfl)
  have m1 := s1'.2.1
  have m2 := s1'.2.2.1
  unfold maxLen at m2
  have HS1 := Lib.hid s1'
  clear hr1 s1' CW
  go_wp2_with fail
  go_loopw [4, 5] (fun v4 v5 wr => ∃ i : Nat, 1 ≤ i ∧ i ≤ ws.length ∧ v5 = .int .i64 (i : Int) ∧ Row wr w1.heap.size 3 1 enc1 v4 (((ws.take i).drop 1).map valueL) ∧ Kp w1 wr) (fun _ v5 _ => ws.length - (intOf v5).toNat)
  case atStart => exact ⟨1, Nat.le_refl _, hpos, rfl, by rw [List.drop_of_length_le (by rw [List.length_take]; omega)]; exact Row.nil _ _ _ _ _, (by (repeat (first | with_reducible assumption | with_reducible exact Kp.refl _ | with_reducible refine Kp.drew ?_ | with_reducible refine Kp.drewN ?_ _ | with_reducible refine Kp.alloc ?_ _ | ((with_reducible refine Kp.setCell ?_ ?_ _); rotate_left; (focus (first | omega | (simp; done) | (simp; omega)))) | with_reducible refine Kp.trans ?_ (by assumption))))⟩
  case round =>
    obtain ⟨i, hi1, hi, rfl, xr, xk⟩ := hrel
    have hsz1 := xk.size
    by_cases hlt : i < ws.length
    · obtain ⟨x, hx⟩ : ∃ x, ws[i]? = some x := ⟨ws[i], List.getElem?_eq_getElem hlt⟩
      have hxs := HSH.out x (List.mem_of_getElem? hx)
      obtain ⟨ga, go, rfl, hga, r1⟩ : ∃ b off, a1 = some ⟨b, off, none⟩ ∧ b < wr.heap.size ∧ RowAt wr 1 encS b off ws := by
        have t := HS1.out.kp xk
        rcases t.2.2.2 with e | ⟨b, off, e, h1, h2⟩
        · rw [e] at hlt; simp at hlt
        · exact ⟨b, off, e, h1, h2⟩
      have d0 := r1 i _ hx 0 _ rfl
      simp only [Nat.add_zero, Nat.mul_one] at d0
      have ji : decide ((i : Int) < (ws.length : Int)) = true := decide_eq_true (by omega)
      have hll : (((ws.take i).drop 1).map valueL).length = i - 1 := by rw [List.length_map, List.length_drop, List.length_take]; omega
      have hnext : ((ws.take (i + 1)).drop 1).map valueL = ((ws.take i).drop 1).map valueL ++ [valueL x] := by
        rw [List.take_add_one, hx, Option.toList_some, List.drop_append_of_le_length (by rw [List.length_take]; omega), List.map_append]; rfl
      obtain ⟨O, hO⟩ : ∃ O, ((ws.take i).drop 1).map valueL = O := ⟨_, rfl⟩
      rw [hO] at hll hnext xr
      have HLL := Lib.hid hll
      have HNX := Lib.hid hnext
      obtain ⟨v4, c4, rfl, _⟩ := xr.sl (fun _ => rfl)
      have CV := Lib.hid (fun w' => value_any x (by omega) w')
      obtain ⟨y, hy⟩ : ∃ y, valueL x = y := ⟨_, rfl⟩
      rw [hy] at CV HNX
      have XR := Lib.hid xr
      clear r1 hx hO hll hnext hy xr
      go_wp2_with fail
      refine (CV.out _).mono ?_
      rintro e w3 ⟨rfl, k3⟩
      have xk3 := xk.trans k3
      have xr3 := XR.out.kp k3
      clear CV XR
      go_wp2_with (at_builtin; go_loud (refine rowAppend ?gd (.tmp 14) (.tmp 20) 61 ?ho Tryd.underlying61 infoInt rfl (by decide) (xr3.alloc (.cells #[.int .i64 y] 3)) ?hs (y := y) rfl ?h1 (Blk.new _ _ 3) ?hx ?hl ?hb ?hz ?_; (case gd => rfl); (case ho => rfl); (case hs => rfl); (case h1 => simp [enc1, Value.oneCell']); (case hx => rfl); (case hl => have := HLL.out; unfold maxLen; omega); (case hb => have := HLL.out; omega); (case hz => exact Nat.le_trans hsz1 (Nat.le_trans k3.size (by simp))); intro v' w5 hr5 kp5 oth5 sz5 hne5))
      have k5 := kp5 (Nat.le_refl _) (xk3.alloc (.cells #[.int .i64 y] 3))
      rw [← HNX.out] at hr5
      go_wp2_with fail
      go_roundw
      case rel => exact ⟨i + 1, by omega, by omega, by go_num, hr5, k5⟩
      case measure => simp [intOf]; omega
    · obtain rfl : i = ws.length := by omega
      have ji : decide ((ws.length : Int) < (ws.length : Int)) = false := decide_eq_false (by omega)
      rw [List.take_length, ← HVL.out] at xr
      have XR := Lib.hid xr
      obtain ⟨wo, rfl⟩ : ∃ u, u = wr := ⟨_, rfl⟩
      clear xr
      go_wp2_with fail
      go_loopw [4] (fun v4 wr' => ∃ (j : Nat) (a4 : Option Addr) (c4 : Nat), v4 = .slice a4 (V.length + j) c4 ∧ (j = 0 ∨ V.length + j ≤ 6) ∧ Row wr' w1.heap.size 3 1 enc1 v4 (V ++ List.replicate j 0) ∧ Kp w1 wr') (fun v4 _ => 6 - lenV v4)
      case atStart =>
        obtain ⟨a4, c4, e, _⟩ := XR.out.sl (fun _ => rfl)
        exact ⟨0, a4, c4, e, .inl rfl, by rw [List.replicate_zero, List.append_nil]; exact XR.out, (by (repeat (first | with_reducible assumption | with_reducible exact Kp.refl _ | with_reducible refine Kp.drew ?_ | with_reducible refine Kp.drewN ?_ _ | with_reducible refine Kp.alloc ?_ _ | ((with_reducible refine Kp.setCell ?_ ?_ _); rotate_left; (focus (first | omega | (simp; done) | (simp; omega)))) | with_reducible refine Kp.trans ?_ (by assumption))))⟩
      case round =>
        obtain ⟨j, a4, c4, rfl, hj, zr, zk⟩ := hrel
        have hzl : (V ++ List.replicate j (0 : Int)).length = V.length + j := by rw [List.length_append, List.length_replicate]
        have hnx : V ++ List.replicate (j + 1) (0 : Int) = (V ++ List.replicate j 0) ++ [0] := by rw [List.replicate_succ', List.append_assoc]
        have zs := zk.size
        obtain ⟨Z, hZ⟩ : ∃ Z, V ++ List.replicate j (0 : Int) = Z := ⟨_, rfl⟩
        rw [hZ] at zr hzl hnx
        have HZL := Lib.hid hzl
        have HNZ := Lib.hid hnx
        have HZ := Lib.hid hZ
        obtain ⟨m, hm⟩ : ∃ m, V.length + j = m := ⟨_, rfl⟩
        rw [hm] at HZL ⊢
        rw [hm] at zr hj
        clear hzl hnx hZ
        by_cases h6 : m < 6
        · have j6 : decide ((m : Int) < 6) = true := decide_eq_true (by omega)
          have j6' : decide (m < 6) = true := decide_eq_true h6
          go_wp2_with (at_builtin; go_loud (refine rowAppend ?gd (.tmp 25) (.tmp 26) 61 ?ho Tryd.underlying61 infoInt rfl (by decide) (zr.alloc (.cells #[.int .i64 0] 3)) ?hs (y := 0) rfl ?h1 (Blk.new _ _ 3) ?hx ?hl ?hb ?hz ?_; (case gd => rfl); (case ho => rfl); (case hs => rfl); (case h1 => simp [enc1, Value.oneCell']); (case hx => rfl); (case hl => have := HZL.out; unfold maxLen; omega); (case hb => have := HZL.out; omega); (case hz => exact Nat.le_trans zs (by simp)); intro v' w5 hr5 kp5 oth5 sz5 hne5))
          have k5 := kp5 (Nat.le_refl _) (zk.alloc (.cells #[.int .i64 0] 3))
          rw [← HNZ.out] at hr5
          obtain ⟨a5, c5, e5, _⟩ := hr5.sl (fun _ => rfl)
          have hl5 : (V ++ List.replicate (j + 1) (0 : Int)).length = V.length + (j + 1) := by rw [List.length_append, List.length_replicate]
          rw [hl5] at e5
          have hm6 : lenV v' = m + 1 := by rw [e5]; show V.length + (j + 1) = m + 1; omega
          have HM6 := Lib.hid hm6
          clear hl5 hm6
          go_wp2_with fail
          go_roundw
          case rel => exact ⟨j + 1, a5, c5, e5, .inr (by omega), hr5, k5⟩
          case measure => rw [HM6.out]; show 6 - (m + 1) < 6 - m; omega
        · have j6 : decide ((m : Int) < 6) = false := decide_eq_false (by omega)
          have j6' : decide (m < 6) = false := decide_eq_false h6
          have hj6 : 6 - V.length = j := by omega
          rw [← HZ.out] at zr
          have ZR := Lib.hid (zr.low k1.size)
          clear zr
          go_wp2_with fail
          (try go_ret)
          exact ⟨_, rfl, by rw [hj6]; exact ZR.out, k1.trans zk⟩
end Go.Proofs.YtkglkbkikgncoaaDoor
