/- A galley's lines: parse. -/
import Derived.Test.YtkglkbkikgncoaaDoorG3

namespace Go.Proofs.YtkglkbkikgncoaaDoor

open Go.ChangeShapes Go.WideShapes Go.ChangeAt Go.RowKit Go.Shelf

def encS (x : List UInt8) : List Value := [sv x]
theorem sl_strs {w : World} {b : Nat} {l : List (List UInt8)} {t : TypeId} (h : Blk w b (l.map sv) t) (hl : l.length ≤ 1000000) : SlOk w 1 encS (some ⟨b, 0, none⟩) l.length l.length l := by
  refine ⟨rfl, Nat.le_refl _, by unfold maxLen; omega, .inr ⟨b, 0, rfl, h.lt, fun i x hx j v hv => ?_⟩⟩
  obtain _ | j := j
  · simp only [encS, List.getElem?_cons_zero, Option.some.injEq] at hv
    subst hv
    rw [Nat.zero_add, Nat.mul_one, Nat.add_zero]
    exact h.cell i (by rw [List.getElem?_map, hx]; rfl)
  · simp [encS] at hv
theorem infoI64 : (Tryd.prog.info? 2).map (fun i => (i.zero, i.size, i.bytes)) = some (some (.int .i64 0), 1, 8) := by kernel_rfl
theorem Row.setOther {α : Type} {w : World} {base n : Nat} {e : TypeId} {enc : α → List Value} {v : Value} {l : List α} (h : Row w base e n enc v l) {b o : Nat} (hb : b < base) (u : Value) : Row (w.setCell ⟨b, o, none⟩ u) base e n enc v l := by
  refine ⟨h.1, ?_⟩
  rcases h.2 with hh | ⟨g, cap, cur, rfl, hg, hgg, rest⟩
  · exact .inl hh
  · exact .inr ⟨g, cap, cur, rfl, hg, by rw [← hgg]; exact Below.heap_setCell _ _ _ _ (by show g ≠ b; omega), rest⟩
theorem splitW_len : ∀ s : List UInt8, (splitW s).length ≤ s.length + 1
  | [] => by simp [splitW]
  | c :: r => by
    have ih := splitW_len r
    unfold splitW
    split
    · rw [List.length_cons, List.length_cons]; omega
    · split
      · rename_i w ws e
        rw [e] at ih
        rw [List.length_cons] at ih ⊢
        rw [List.length_cons]; omega
      · simp
theorem splitW_short : ∀ {s : List UInt8} {x : List UInt8}, x ∈ splitW s → x.length ≤ s.length
  | [], x, h => by simp [splitW] at h; simp [h]
  | c :: r, x, h => by
    unfold splitW at h
    split at h
    · rcases List.mem_cons.1 h with rfl | h
      · simp
      · have := splitW_short h; rw [List.length_cons]; omega
    · split at h
      · rename_i w ws e
        rcases List.mem_cons.1 h with rfl | h
        · have := splitW_short (s := r) (x := w) (by rw [e]; exact List.mem_cons_self)
          rw [List.length_cons, List.length_cons]; omega
        · have := splitW_short (s := r) (x := x) (by rw [e]; exact List.mem_cons_of_mem _ h)
          rw [List.length_cons]; omega
      · simp at h; simp [h]
theorem parse_i64 {x : List UInt8} {v : Int} (hp : Lib.parseIntB 64 x = .ok v) : I64 v := by
  unfold Lib.parseIntB at hp
  unfold I64
  split at hp
  · cases hp
  · simp only at hp
    split at hp
    · cases hp
    · cases hp
    · split at hp
      · cases hp
      · split at hp
        · cases hp
        · cases hp
          split <;> omega
set_option maxRecDepth 100000 in
set_option maxHeartbeats 8000000 in
theorem parse_any (s : List UInt8) (hs : s.length ≤ 10000) (w : World) (he : Env w) :
    Calls Tryd.prog 25 #[sv s] w fun e w' => Kp w w' ∧ ((∃ wd ns a c, parseP s = some (wd, ns) ∧ e = .returned (.agg #[sv wd, .slice a ns.length c]) ∧ SlOk w' 1 enc1 a ns.length c ns ∧ ns.length ≤ 10000 ∧ ∀ b off sp, a = some ⟨b, off, sp⟩ → w.heap.size ≤ b) ∨ (parseP s = none ∧ e = .panicked gone)) := by
  have HE := Lib.hid he
  obtain ⟨w0, ws, hsp⟩ := List.exists_cons_of_ne_nil (splitW_ne s)
  have hlen := splitW_len s
  have HSH := Lib.hid (fun x hx => splitW_short (s := s) (x := x) hx)
  have CS := Lib.hid (fun w' (k : Kp w w') => split_any s (by omega) w' (he.kp k))
  have hpp : parseP s = (ws.mapM canon).map fun ns => (w0, ns) := by unfold parseP; rw [hsp]
  rw [hsp] at hlen HSH CS
  rw [List.length_cons] at hlen
  have HPP := Lib.hid hpp
  clear he hsp hpp
  go_enter Tryd.func25, Tryd.ntmps25
  go_wp2_with fail
  refine (CS.out _ (by (repeat (first | with_reducible assumption | with_reducible exact Kp.refl _ | with_reducible refine Kp.drew ?_ | with_reducible refine Kp.drewN ?_ _ | with_reducible refine Kp.alloc ?_ _ | ((with_reducible refine Kp.setCell ?_ ?_ _); rotate_left; (focus (first | omega | (simp; done) | (simp; omega)))) | with_reducible refine Kp.trans ?_ (by assumption))))).mono ?_
  rintro e w1 ⟨rfl, rfl⟩
  have hL1 : (ws.map sv).length = ws.length := List.length_map _
  by_cases hws : ws = []
  · subst hws
    have hp0 : parseP s = some (w0, []) := HPP.out
    clear HSH
    go_wp2_with fail
    
    
    refine named_world (F := fun w2 => Blk w2 w.heap.size [sv [], .slice none 0 0] 58 ∧ Blk w2 (w.heap.size + 1 + 1) [sv w0, .slice none 0 0] 58 ∧ Kp w w2) ⟨(by (repeat (first | with_reducible assumption | ((with_reducible refine Blk.newL ?_ ?_); (focus (first | (simp; done) | omega)); rfl) | with_reducible refine Blk.drew ?_ | with_reducible refine Blk.drewN ?_ _ | with_reducible refine Blk.alloc ?_ _ | ((with_reducible refine Blk.other ?_ ?_ _); rotate_left; (focus (first | with_reducible assumption | omega | (simp; done) | (simp; omega))))))), (by (repeat (first | with_reducible assumption | ((with_reducible refine Blk.newL ?_ ?_); (focus (first | (simp; done) | omega)); rfl) | with_reducible refine Blk.drew ?_ | with_reducible refine Blk.drewN ?_ _ | with_reducible refine Blk.alloc ?_ _ | ((with_reducible refine Blk.other ?_ ?_ _); rotate_left; (focus (first | with_reducible assumption | omega | (simp; done) | (simp; omega))))))), (by (repeat (first | with_reducible assumption | with_reducible exact Kp.refl _ | with_reducible refine Kp.drew ?_ | with_reducible refine Kp.drewN ?_ _ | with_reducible refine Kp.alloc ?_ _ | ((with_reducible refine Kp.setCell ?_ ?_ _); rotate_left; (focus (first | omega | (simp; done) | (simp; omega)))) | with_reducible refine Kp.trans ?_ (by assumption))))⟩ ?_; rintro w2 ⟨br, bo, kw2⟩; have br_0 := br.cell 0 rfl; have br_1 := br.cell 1 rfl; have br_ne := br.lt; have br_n1 := Nat.lt_add_one_of_lt br_ne; have br_n2 := Nat.lt_add_one_of_lt br_n1; have bo_0 := bo.cell 0 rfl; have bo_1 := bo.cell 1 rfl; have bo_ne := bo.lt; have bo_n1 := Nat.lt_add_one_of_lt bo_ne; have bo_n2 := Nat.lt_add_one_of_lt bo_n1
    go_loopw [18] (fun v18 wr => v18 = .int .i64 0 ∧ wr = w2) (fun _ _ => 0)
    case atStart => exact ⟨rfl, rfl⟩
    case round =>
      obtain ⟨rfl, rfl⟩ := hrel
      have f1 := br.free 0
      have f2 := br.free 1
      go_wp2_with fail
      have z := ((br.set 0 (sv w0)).set 1 (.slice none 0 0))
      have z0 := z.cell 0 rfl
      have z1 := z.cell 1 rfl
      refine bodyPost_ret (v := .agg #[sv w0, .slice none 0 0]) (by simp [results, Tryd.results25, go_sem, z0, z1]) rfl ?_
      exact ⟨(by (repeat (first | with_reducible assumption | with_reducible exact Kp.refl _ | with_reducible refine Kp.drew ?_ | with_reducible refine Kp.drewN ?_ _ | with_reducible refine Kp.alloc ?_ _ | ((with_reducible refine Kp.setCell ?_ ?_ _); rotate_left; (focus (first | omega | (simp; done) | (simp; omega)))) | with_reducible refine Kp.trans ?_ (by assumption)))), .inl ⟨w0, [], none, 0, hp0, rfl, ⟨rfl, Nat.le_refl _, by decide, .inl rfl⟩, Nat.zero_le _, fun b off sp h => by cases h⟩⟩
  · have hpos : 0 < ws.length := List.length_pos_iff.2 hws
    go_wp2_with fail
    
    
    
    refine named_world (F := fun w2 => Blk w2 w.heap.size [sv [], .slice none 0 0] 58 ∧ Blk w2 (w.heap.size + 1 + 1) [sv w0, .slice none 0 0] 58 ∧ Blk w2 (w.heap.size + 1) ((w0 :: ws).map sv) 9 ∧ Kp w w2) ⟨(by (repeat (first | with_reducible assumption | ((with_reducible refine Blk.newL ?_ ?_); (focus (first | (simp; done) | omega)); rfl) | with_reducible refine Blk.drew ?_ | with_reducible refine Blk.drewN ?_ _ | with_reducible refine Blk.alloc ?_ _ | ((with_reducible refine Blk.other ?_ ?_ _); rotate_left; (focus (first | with_reducible assumption | omega | (simp; done) | (simp; omega))))))), (by (repeat (first | with_reducible assumption | ((with_reducible refine Blk.newL ?_ ?_); (focus (first | (simp; done) | omega)); rfl) | with_reducible refine Blk.drew ?_ | with_reducible refine Blk.drewN ?_ _ | with_reducible refine Blk.alloc ?_ _ | ((with_reducible refine Blk.other ?_ ?_ _); rotate_left; (focus (first | with_reducible assumption | omega | (simp; done) | (simp; omega))))))), (by (repeat (first | with_reducible assumption | ((with_reducible refine Blk.newL ?_ ?_); (focus (first | (simp; done) | omega)); rfl) | with_reducible refine Blk.drew ?_ | with_reducible refine Blk.drewN ?_ _ | with_reducible refine Blk.alloc ?_ _ | ((with_reducible refine Blk.other ?_ ?_ _); rotate_left; (focus (first | with_reducible assumption | omega | (simp; done) | (simp; omega))))))), (by (repeat (first | with_reducible assumption | with_reducible exact Kp.refl _ | with_reducible refine Kp.drew ?_ | with_reducible refine Kp.drewN ?_ _ | with_reducible refine Kp.alloc ?_ _ | ((with_reducible refine Kp.setCell ?_ ?_ _); rotate_left; (focus (first | omega | (simp; done) | (simp; omega)))) | with_reducible refine Kp.trans ?_ (by assumption))))⟩ ?_; rintro w2 ⟨br, bo, bw, kw2⟩; have br_0 := br.cell 0 rfl; have br_1 := br.cell 1 rfl; have br_ne := br.lt; have br_n1 := Nat.lt_add_one_of_lt br_ne; have br_n2 := Nat.lt_add_one_of_lt br_n1; have bo_0 := bo.cell 0 rfl; have bo_1 := bo.cell 1 rfl; have bo_ne := bo.lt; have bo_n1 := Nat.lt_add_one_of_lt bo_ne; have bo_n2 := Nat.lt_add_one_of_lt bo_n1; have bw_ne := bw.lt; have bw_n1 := Nat.lt_add_one_of_lt bw_ne; have bw_n2 := Nat.lt_add_one_of_lt bw_n1
    have hsz2 := bo.lt
    go_loopw [18] (fun v18 wr => ∃ (k : Nat) (ns : List Int) (a : Option Addr) (c : Nat), k ≤ ws.length ∧ v18 = .int .i64 (k : Int) ∧ (ws.take k).mapM canon = some ns ∧ ns.length = k ∧ Row wr w2.heap.size 2 1 enc1 (.slice a ns.length c) ns ∧ Blk wr w.heap.size [sv [], .slice none 0 0] 58 ∧ Blk wr (w.heap.size + 1) ((w0 :: ws).map sv) 9 ∧ Blk wr (w.heap.size + 1 + 1) [sv w0, .slice a ns.length c] 58 ∧ w2.heap.size ≤ wr.heap.size ∧ Kp w wr) (fun v18 _ => ws.length - (intOf v18).toNat)
    case atStart => exact ⟨0, [], none, 0, Nat.zero_le _, rfl, rfl, rfl, Row.nil _ _ _ _ _, br, bw, bo, Nat.le_refl _, (by (repeat (first | with_reducible assumption | with_reducible exact Kp.refl _ | with_reducible refine Kp.drew ?_ | with_reducible refine Kp.drewN ?_ _ | with_reducible refine Kp.alloc ?_ _ | ((with_reducible refine Kp.setCell ?_ ?_ _); rotate_left; (focus (first | omega | (simp; done) | (simp; omega)))) | with_reducible refine Kp.trans ?_ (by assumption))))⟩
    case round =>
      obtain ⟨k, ns, a, c, hk, rfl, hns, hnl, xr, xbr, xbw, xbo, xsz, xk⟩ := hrel
      have HNL := Lib.hid hnl
      clear br bw bo hnl
      by_cases hlt : k < ws.length
      · obtain ⟨x, hx⟩ : ∃ x, ws[k]? = some x := ⟨ws[k], List.getElem?_eq_getElem hlt⟩
        have hxs := HSH.out x (List.mem_cons_of_mem _ (List.mem_of_getElem? hx))
        have d0 := xbw.cell (1 + k) (v := sv x) (by rw [Nat.add_comm, List.map_cons, List.getElem?_cons_succ, List.getElem?_map, hx]; rfl)
        have ji : decide ((k : Int) < (ws.length : Int)) = true := decide_eq_true (by omega)
        have hwl := xbw.lt
        have XR := Lib.hid xr
        have XBR := Lib.hid xbr
        have XBW := Lib.hid xbw
        have XBO := Lib.hid xbo
        clear xr xbr xbw xbo
        cases hc : canon x with
        | some v =>
          obtain ⟨hp, hit⟩ : Lib.parseIntB 64 x = .ok v ∧ Lib.itoa v = x := by
            unfold canon at hc
            split at hc
            · rename_i v' hp
              split at hc
              · rename_i hi
                cases hc; exact ⟨hp, hi⟩
              · cases hc
            · cases hc
          have hvi := canon_i64 hc
          have HSN := Lib.hid (mapM_snoc hx hns hc)
          have CPI := Lib.hid (fun w' => parseInt_yes x v (by omega) hp w')
          have CFI := Lib.hid (fun w' (k : Kp w w') => formatInt v hvi w' (HE.out.kp k))
          rw [hit] at CFI
          clear hc hns hx hp hit HSH
          go_wp2_with fail
          refine (CPI.out _).mono ?_
          rintro e w3 ⟨rfl, k3⟩
          have kw3 := xk.trans k3
          go_wp2_with fail
          refine (CFI.out _ kw3).mono ?_
          rintro e w4 ⟨rfl, k4⟩
          have kw4 := kw3.trans k4
          have k34 := k3.trans k4
          have xr4 := XR.out.kp k34
          have XBR4 := Lib.hid (XBR.out.kp k34)
          have XBW4 := Lib.hid (XBW.out.kp k34)
          have bo4 := XBO.out.kp k34
          have bo4_1 := bo4.cell 1 rfl
          have hsz4 := Nat.le_trans xsz k34.size
          have XBO4 := Lib.hid bo4
          clear k3 k4 k34 bo4 XR XBR XBW XBO kw3 CPI CFI xk xsz
          go_wp2_with (at_builtin; go_loud (refine rowAppend ?gd (.tmp 38) (.tmp 40) 56 ?ho Tryd.underlying56 infoI64 rfl (by decide) (xr4.alloc (.cells #[.int .i64 v] 2)) ?hs (y := v) rfl ?h1 (Blk.new _ _ 2) ?hx ?hl ?hb ?hz ?_; (case gd => rfl); (case ho => rfl); (case hs => rfl); (case h1 => simp [enc1, Value.oneCell']); (case hx => rfl); (case hl => have := HNL.out; unfold maxLen; omega); (case hb => have := HNL.out; omega); (case hz => exact Nat.le_trans hsz4 (by simp)); intro v' w5 hr5 kp5 oth5 sz5 hne5; generalize hL : ns ++ [v] = L at hr5; obtain ⟨a5, c5, rfl, _⟩ := hr5.sl (fun _ => rfl); have bo5 := oth5 hsz2 (XBO4.out.alloc _); have z1 := bo5.cell 1 rfl; have f1 := bo5.free 1))
          have k5 := kp5 kw2.size (kw4.alloc (.cells #[.int .i64 v] 2))
          have br5 := (oth5 (by omega) (XBR4.out.alloc (.cells #[.int .i64 v] 2))).other (a := ⟨w.heap.size + 1 + 1, 1, none⟩) (by show w.heap.size ≠ w.heap.size + 1 + 1; omega) (.slice a5 L.length c5)
          have bw5 := (oth5 (by omega) (XBW4.out.alloc (.cells #[.int .i64 v] 2))).other (a := ⟨w.heap.size + 1 + 1, 1, none⟩) (by show w.heap.size + 1 ≠ w.heap.size + 1 + 1; omega) (.slice a5 L.length c5)
          have bo6 := bo5.set 1 (.slice a5 L.length c5)
          have hr6 := hr5.setOther (o := 1) hsz2 (.slice a5 L.length c5)
          have hs6 : w2.heap.size ≤ w5.heap.size := Nat.le_trans hsz4 (Nat.le_trans (by simp) sz5)
          go_wp2_with fail
          go_roundw
          case rel => exact ⟨k + 1, L, a5, c5, by omega, by go_num, by rw [← hL]; exact HSN.out, by rw [← hL, List.length_append, HNL.out]; rfl, hr6, br5, bw5, bo6, by simpa using hs6, (by (repeat (first | with_reducible assumption | with_reducible exact Kp.refl _ | with_reducible refine Kp.drew ?_ | with_reducible refine Kp.drewN ?_ _ | with_reducible refine Kp.alloc ?_ _ | ((with_reducible refine Kp.setCell ?_ ?_ _); rotate_left; (focus (first | omega | (simp; done) | (simp; omega)))) | with_reducible refine Kp.trans ?_ (by assumption))))⟩
          case measure => simp [intOf]; omega
        | none =>
          have hnone := mapM_none hx hc
          have hpn : parseP s = none := by rw [HPP.out, hnone]; rfl
          by_cases hok : ∃ v, Lib.parseIntB 64 x = .ok v
          · obtain ⟨v, hp⟩ := hok
            have hit : Lib.itoa v ≠ x := fun e => by
              unfold canon at hc
              rw [hp] at hc
              simp [e] at hc
            have hvi : I64 v := parse_i64 hp
            have CPI := Lib.hid (fun w' => parseInt_yes x v (by omega) hp w')
            have CFI := Lib.hid (fun w' (k : Kp w w') => formatInt v hvi w' (HE.out.kp k))
            obtain ⟨y, hy⟩ : ∃ y, Lib.itoa v = y := ⟨_, rfl⟩
            rw [hy] at CFI hit
            have hne : (y == x) = false := beq_eq_false_iff_ne.2 hit
            clear hc hns hx hp HSH hnone
            go_wp2_with fail
            refine (CPI.out _).mono ?_
            rintro e w3 ⟨rfl, k3⟩
            have kw3 := xk.trans k3
            go_wp2_with fail
            refine (CFI.out _ kw3).mono ?_
            rintro e w4 ⟨rfl, k4⟩
            have kw4 := kw3.trans k4
            clear k3 k4 XR XBR XBW XBO kw3 CPI CFI
            go_wp2_with fail
            exact ⟨rfl, kw4, .inr ⟨hpn, rfl⟩⟩
          · have hno : ∀ v, Lib.parseIntB 64 x ≠ .ok v := fun v e => hok ⟨v, e⟩
            have CPI := Lib.hid (fun w' (k : Kp w w') => parseInt_no x (by omega) hno w' (HE.out.kp k))
            clear hc hns hx HSH hnone hok hno
            go_wp2_with fail
            refine (CPI.out _ xk).mono ?_
            rintro e w3 ⟨n, N, rfl, k3⟩
            have kw3 := xk.trans k3
            clear k3 XR XBR XBW XBO CPI
            go_wp2_with fail
            exact ⟨rfl, kw3, .inr ⟨hpn, rfl⟩⟩
      · obtain rfl : k = ws.length := by omega
        rw [List.take_length] at hns
        have hpk : parseP s = some (w0, ns) := by rw [HPP.out, hns]; rfl
        have ji : decide ((ws.length : Int) < (ws.length : Int)) = false := decide_eq_false (by omega)
        have f1 := xbr.free 0
        have f2 := xbr.free 1
        have z0 := xbo.cell 0 rfl
        have z1 := xbo.cell 1 rfl
        have y0 := xbr.cell 0 rfl
        have y1 := xbr.cell 1 rfl
        obtain ⟨a', c', e', hsl⟩ := ((xr.setOther (b := w.heap.size) (o := 0) (by omega) (sv w0)).setOther (b := w.heap.size) (o := 1) (by omega) (.slice a ns.length c)).sl (fun _ => rfl)
        cases e'
        have HSL := Lib.hid hsl
        have XRL : Hid (∀ b, (Value.slice a ns.length c).ownBlock = some b → w2.heap.size ≤ b) := Lib.hid fun b h => (xr.lt b h).1
        clear hsl
        go_wp2_with fail
        have z := ((xbr.set 0 (sv w0)).set 1 (.slice a ns.length c))
        have q0 := z.cell 0 rfl
        have q1 := z.cell 1 rfl
        refine bodyPost_ret (v := .agg #[sv w0, .slice a ns.length c]) (by simp [results, Tryd.results25, go_sem, q0, q1]) rfl ?_
        exact ⟨(by (repeat (first | with_reducible assumption | with_reducible exact Kp.refl _ | with_reducible refine Kp.drew ?_ | with_reducible refine Kp.drewN ?_ _ | with_reducible refine Kp.alloc ?_ _ | ((with_reducible refine Kp.setCell ?_ ?_ _); rotate_left; (focus (first | omega | (simp; done) | (simp; omega)))) | with_reducible refine Kp.trans ?_ (by assumption)))), .inl ⟨w0, ns, a, c, hpk, rfl, HSL.out, by have := HNL.out; omega, fun b off sp h => by subst h; exact Nat.le_trans kw2.size (XRL.out b rfl)⟩⟩
end Go.Proofs.YtkglkbkikgncoaaDoor
