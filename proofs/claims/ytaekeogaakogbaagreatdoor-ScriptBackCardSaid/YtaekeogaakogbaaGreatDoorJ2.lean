/- A script's lines: parse. -/
import Derived.Test.YtaekeogaakogbaaGreatDoorJ1

import Derived.Test.YtaekeogaakogbaaGreatDoorHeld

namespace Go.Proofs.YtaekeogaakogbaaGreatDoor

open Go.ChangeShapes Go.WideShapes Go.ChangeAt Go.RowKit Go.Shelf

theorem Row.low {α : Type} {w : World} {base base' n : Nat} {e : TypeId} {enc : α → List Value} {v : Value} {l : List α} (h : Row w base e n enc v l) (hb : base' ≤ base) : Row w base' e n enc v l := by
  refine ⟨h.1, ?_⟩
  rcases h.2 with hh | ⟨g, cap, cur, rfl, hg, rest⟩
  · exact .inl hh
  · exact .inr ⟨g, cap, cur, rfl, Nat.le_trans hb hg, rest⟩
/-- What is parsed of a line. -/
def ParseEnd (s : List UInt8) (w : World) (e : Ending) (w' : World) : Prop := Kp w w' ∧
  ((∃ wd ns a c, parseP s = some (wd, ns) ∧ e = .returned (.tuple #[sv wd, .slice a ns.length c, .bool true]) ∧ Row w' w.heap.size 2 1 enc1 (.slice a ns.length c) ns ∧ ns.length ≤ 10000) ∨
   (parseP s = none ∧ e = .returned (.tuple #[sv [], .slice none 0 0, .bool false])))
set_option maxRecDepth 100000 in
set_option maxHeartbeats 8000000 in
theorem parseS_any (s : List UInt8) (hs : s.length ≤ 10000) (w : World) (he : Env w) : Calls Tryz.prog 23 #[sv s] w (ParseEnd s w) := by
  have HE := Lib.hid he
  obtain ⟨w0, ws, hsp⟩ := List.exists_cons_of_ne_nil (splitW_ne s)
  have hlen := splitW_len s
  have HSH := Lib.hid (fun x hx => splitW_short (s := s) (x := x) hx)
  have CS := Lib.hid (fun w' (k : Kp w w') => split_any s (by omega) w' (he.kp k))
  have hpp : parseP s = (ws.mapM canon).map fun ns => (w0, ns) := by unfold parseP; rw [hsp]
  rw [hsp] at hlen HSH CS
  rw [List.length_cons] at hlen
  have HPP := Lib.hid hpp
  clear he hsp hpp
  go_enter Tryz.func23, Tryz.ntmps23
  go_wp2_with fail
  refine (CS.out _ (by (repeat (first | with_reducible assumption | with_reducible exact Kp.refl _ | with_reducible refine Kp.drew ?_ | with_reducible refine Kp.drewN ?_ _ | with_reducible refine Kp.alloc ?_ _ | ((with_reducible refine Kp.setCell ?_ ?_ _); rotate_left; (focus (first | omega | (simp; done) | (simp; omega)))) | with_reducible refine Kp.trans ?_ (by assumption))))).mono ?_
  rintro e w1 ⟨rfl, rfl⟩
  have hL1 : (ws.map sv).length = ws.length := List.length_map _
  by_cases hws : ws = []
  · subst hws
    have hp0 : parseP s = some (w0, []) := HPP.out
    clear HSH CS
    go_wp2_with fail
    
    refine named_world (F := fun w2 => Blk w2 w.heap.size [sv w0] 9 ∧ Kp w w2) ⟨(by (repeat (first | with_reducible assumption | ((with_reducible refine Blk.newL ?_ ?_); (focus (first | (simp; done) | omega)); rfl) | with_reducible refine Blk.drew ?_ | with_reducible refine Blk.drewN ?_ _ | with_reducible refine Blk.alloc ?_ _ | ((with_reducible refine Blk.other ?_ ?_ _); rotate_left; (focus (first | with_reducible assumption | omega | (simp; done) | (simp; omega))))))), (by (repeat (first | with_reducible assumption | with_reducible exact Kp.refl _ | with_reducible refine Kp.drew ?_ | with_reducible refine Kp.drewN ?_ _ | with_reducible refine Kp.alloc ?_ _ | ((with_reducible refine Kp.setCell ?_ ?_ _); rotate_left; (focus (first | omega | (simp; done) | (simp; omega)))) | with_reducible refine Kp.trans ?_ (by assumption))))⟩ ?_; rintro w2 ⟨bw, kw2⟩; have bw_0 := bw.cell 0 rfl; have bw_ne := bw.lt; have bw_n1 := Nat.lt_add_one_of_lt bw_ne; have bw_n2 := Nat.lt_add_one_of_lt bw_n1
    go_loopw [6, 16] (fun v6 v16 wr => v6 = .slice none 0 0 ∧ v16 = .int .i64 0 ∧ wr = w2) (fun _ _ _ => 0)
    case atStart => exact ⟨rfl, rfl, rfl⟩
    case round =>
      obtain ⟨rfl, rfl, rfl⟩ := hrel
      go_wp2_with fail
      refine bodyPost_ret (v := .tuple #[sv w0, .slice none 0 0, .bool true]) (by simp [results, Tryz.results23, go_sem]) rfl ?_
      exact ⟨(by (repeat (first | with_reducible assumption | with_reducible exact Kp.refl _ | with_reducible refine Kp.drew ?_ | with_reducible refine Kp.drewN ?_ _ | with_reducible refine Kp.alloc ?_ _ | ((with_reducible refine Kp.setCell ?_ ?_ _); rotate_left; (focus (first | omega | (simp; done) | (simp; omega)))) | with_reducible refine Kp.trans ?_ (by assumption)))), .inl ⟨w0, [], none, 0, hp0, rfl, Row.nil _ _ _ _ _, Nat.zero_le _⟩⟩
  · have hpos : 0 < ws.length := List.length_pos_iff.2 hws
    clear CS
    go_wp2_with fail
    
    refine named_world (F := fun w2 => Blk w2 w.heap.size ((w0 :: ws).map sv) 9 ∧ Kp w w2) ⟨(by (repeat (first | with_reducible assumption | ((with_reducible refine Blk.newL ?_ ?_); (focus (first | (simp; done) | omega)); rfl) | with_reducible refine Blk.drew ?_ | with_reducible refine Blk.drewN ?_ _ | with_reducible refine Blk.alloc ?_ _ | ((with_reducible refine Blk.other ?_ ?_ _); rotate_left; (focus (first | with_reducible assumption | omega | (simp; done) | (simp; omega))))))), (by (repeat (first | with_reducible assumption | with_reducible exact Kp.refl _ | with_reducible refine Kp.drew ?_ | with_reducible refine Kp.drewN ?_ _ | with_reducible refine Kp.alloc ?_ _ | ((with_reducible refine Kp.setCell ?_ ?_ _); rotate_left; (focus (first | omega | (simp; done) | (simp; omega)))) | with_reducible refine Kp.trans ?_ (by assumption))))⟩ ?_; rintro w2 ⟨bw, kw2⟩; have bw_ne := bw.lt; have bw_n1 := Nat.lt_add_one_of_lt bw_ne; have bw_n2 := Nat.lt_add_one_of_lt bw_n1
    have hsz2 := bw.lt
    go_loopw [6, 16] (fun v6 v16 wr => ∃ (k : Nat) (ns : List Int) (a : Option Addr) (c : Nat), k ≤ ws.length ∧ v16 = .int .i64 (k : Int) ∧ v6 = .slice a ns.length c ∧ (ws.take k).mapM canon = some ns ∧ ns.length = k ∧ Row wr w2.heap.size 2 1 enc1 (.slice a ns.length c) ns ∧ Blk wr w.heap.size ((w0 :: ws).map sv) 9 ∧ w2.heap.size ≤ wr.heap.size ∧ Kp w wr) (fun _ v16 _ => ws.length - (intOf v16).toNat)
    case atStart => exact ⟨0, [], none, 0, Nat.zero_le _, rfl, rfl, rfl, rfl, Row.nil _ _ _ _ _, bw, Nat.le_refl _, (by (repeat (first | with_reducible assumption | with_reducible exact Kp.refl _ | with_reducible refine Kp.drew ?_ | with_reducible refine Kp.drewN ?_ _ | with_reducible refine Kp.alloc ?_ _ | ((with_reducible refine Kp.setCell ?_ ?_ _); rotate_left; (focus (first | omega | (simp; done) | (simp; omega)))) | with_reducible refine Kp.trans ?_ (by assumption))))⟩
    case round =>
      obtain ⟨k, ns, a, c, hk, rfl, rfl, hns, hnl, xr, xbw, xsz, xk⟩ := hrel
      have HNL := Lib.hid hnl
      clear bw hnl
      by_cases hlt : k < ws.length
      · obtain ⟨x, hx⟩ : ∃ x, ws[k]? = some x := ⟨ws[k], List.getElem?_eq_getElem hlt⟩
        have hxs := HSH.out x (List.mem_cons_of_mem _ (List.mem_of_getElem? hx))
        have d0 := xbw.cell (1 + k) (v := sv x) (by rw [Nat.add_comm, List.map_cons, List.getElem?_cons_succ, List.getElem?_map, hx]; rfl)
        have ji : decide ((k : Int) < (ws.length : Int)) = true := decide_eq_true (by omega)
        have hwl := xbw.lt
        have XR := Lib.hid xr
        have XBW := Lib.hid xbw
        clear xr xbw
        cases hc : canon x with
        | some v =>
          obtain ⟨hp, hit⟩ : Lib.parseIntB 64 x = .ok v ∧ Lib.itoa v = x := by
            unfold canon at hc
            split at hc
            · rename_i v' hp
              split at hc
              · rename_i hi
                cases hc; exact ⟨hp, hi⟩
              · cases hc
            · cases hc
          have hvi := canon_i64 hc
          have HSN := Lib.hid (mapM_snoc hx hns hc)
          have CPI := Lib.hid (fun w' => parseInt_yes x v (by omega) hp w')
          have CFI := Lib.hid (fun w' (k : Kp w w') => formatInt v hvi w' (HE.out.kp k))
          rw [hit] at CFI
          clear hc hns hx hp hit HSH
          go_wp2_with fail
          refine (CPI.out _).mono ?_
          rintro e w3 ⟨rfl, k3⟩
          have kw3 := xk.trans k3
          go_wp2_with fail
          refine (CFI.out _ kw3).mono ?_
          rintro e w4 ⟨rfl, k4⟩
          have kw4 := kw3.trans k4
          have k34 := k3.trans k4
          have xr4 := XR.out.kp k34
          have XBW4 := Lib.hid (XBW.out.kp k34)
          have hsz4 := Nat.le_trans xsz k34.size
          clear k3 k4 k34 XR XBW kw3 CPI CFI xk xsz
          go_wp2_with (at_builtin; go_loud (refine rowAppend ?gd (.tmp 33) (.tmp 35) 72 ?ho Tryz.underlying72 infoI64 rfl (by decide) (xr4.alloc (.cells #[.int .i64 v] 2)) ?hs (y := v) rfl ?h1 (Blk.new _ _ 2) ?hx ?hl ?hb ?hz ?_; (case gd => rfl); (case ho => rfl); (case hs => rfl); (case h1 => simp [enc1, Value.oneCell']); (case hx => rfl); (case hl => have := HNL.out; unfold maxLen; omega); (case hb => have := HNL.out; omega); (case hz => exact Nat.le_trans hsz4 (by simp)); intro v' w5 hr5 kp5 oth5 sz5 hne5; generalize hL : ns ++ [v] = L at hr5; obtain ⟨a5, c5, rfl, _⟩ := hr5.sl (fun _ => rfl)))
          have k5 := kp5 kw2.size (kw4.alloc (.cells #[.int .i64 v] 2))
          have bw5 := oth5 hsz2 (XBW4.out.alloc (.cells #[.int .i64 v] 2))
          have hs6 : w2.heap.size ≤ w5.heap.size := Nat.le_trans hsz4 (Nat.le_trans (by simp) sz5)
          go_wp2_with fail
          go_roundw
          case rel => exact ⟨k + 1, L, a5, c5, by omega, by go_num, rfl, by rw [← hL]; exact HSN.out, by rw [← hL, List.length_append, HNL.out]; rfl, hr5, bw5, hs6, k5⟩
          case measure => simp [intOf]; omega
        | none =>
          have hnone := mapM_none hx hc
          have hpn : parseP s = none := by rw [HPP.out, hnone]; rfl
          by_cases hok : ∃ v, Lib.parseIntB 64 x = .ok v
          · obtain ⟨v, hp⟩ := hok
            have hit : Lib.itoa v ≠ x := fun e => by
              unfold canon at hc
              rw [hp] at hc
              simp [e] at hc
            have hvi : I64 v := parse_i64 hp
            have CPI := Lib.hid (fun w' => parseInt_yes x v (by omega) hp w')
            have CFI := Lib.hid (fun w' (k : Kp w w') => formatInt v hvi w' (HE.out.kp k))
            obtain ⟨y, hy⟩ : ∃ y, Lib.itoa v = y := ⟨_, rfl⟩
            rw [hy] at CFI hit
            have hne : (y == x) = false := beq_eq_false_iff_ne.2 hit
            clear hc hns hx hp HSH hnone
            go_wp2_with fail
            refine (CPI.out _).mono ?_
            rintro e w3 ⟨rfl, k3⟩
            have kw3 := xk.trans k3
            go_wp2_with fail
            refine (CFI.out _ kw3).mono ?_
            rintro e w4 ⟨rfl, k4⟩
            have kw4 := kw3.trans k4
            clear k3 k4 XR XBW kw3 CPI CFI
            go_wp2_with fail
            refine bodyPost_ret (v := .tuple #[sv [], .slice none 0 0, .bool false]) (by simp [results, Tryz.results23, go_sem]) rfl ?_
            exact ⟨kw4, .inr ⟨hpn, rfl⟩⟩
          · have hno : ∀ v, Lib.parseIntB 64 x ≠ .ok v := fun v e => hok ⟨v, e⟩
            have CPI := Lib.hid (fun w' (k : Kp w w') => parseInt_no x (by omega) hno w' (HE.out.kp k))
            clear hc hns hx HSH hnone hok hno
            go_wp2_with fail
            refine (CPI.out _ xk).mono ?_
            rintro e w3 ⟨n, N, rfl, k3⟩
            have kw3 := xk.trans k3
            clear k3 XR XBW CPI
            go_wp2_with fail
            refine bodyPost_ret (v := .tuple #[sv [], .slice none 0 0, .bool false]) (by simp [results, Tryz.results23, go_sem]) rfl ?_
            exact ⟨kw3, .inr ⟨hpn, rfl⟩⟩
      · obtain rfl : k = ws.length := by omega
        rw [List.take_length] at hns
        have hpk : parseP s = some (w0, ns) := by rw [HPP.out, hns]; rfl
        have ji : decide ((ws.length : Int) < (ws.length : Int)) = false := decide_eq_false (by omega)
        have z0 := xbw.cell 0 (v := sv w0) rfl
        have XR := Lib.hid (xr.low kw2.size)
        have hnl2 : ns.length ≤ 10000 := by have := HNL.out; omega
        clear xr
        go_wp2_with fail
        refine bodyPost_ret (v := .tuple #[sv w0, .slice a ns.length c, .bool true]) (by simp [results, Tryz.results23, go_sem]) rfl ?_
        exact ⟨xk, .inl ⟨w0, ns, a, c, hpk, rfl, XR.out, hnl2⟩⟩
end Go.Proofs.YtaekeogaakogbaaGreatDoor
